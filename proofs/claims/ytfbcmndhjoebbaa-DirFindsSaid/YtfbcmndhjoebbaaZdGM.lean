import Derived.Test.YtfbcmndhjoebbaaZdGS
import Derived.Test.YtfbcmndhjoebbaaZdXC
import Derived.Test.YtfbcmndhjoebbaaZdYC
set_option linter.unusedVariables false
set_option linter.unusedSimpArgs false
/-
  The keys' blocks, taggers, and tags: of the program. Each list has at most 2^47 - 4096 bytes, all together at most 2^54.
-/
namespace Go.Sx
open Go Go.Proofs

theorem flat1 {l : List (BitVec 8)} : [l].flatten = l := by simp
theorem flat2 {l m : List (BitVec 8)} : [l, m].flatten = l ++ m := by simp
/-- Each byte up to place i is turned. -/
def tnL (t : BitVec 8) (l : List (BitVec 8)) (i : Nat) : List (BitVec 8) := (l.take i).map (· ^^^ t) ++ l.drop i
theorem tnL_length (t : BitVec 8) (l : List (BitVec 8)) (i : Nat) : (tnL t l i).length = l.length := by simp [tnL]; omega
theorem tnL_get {t : BitVec 8} {l : List (BitVec 8)} {i : Nat} {x : BitVec 8} (h : l[i]? = some x) : (tnL t l i)[i]? = some x := by
  have hi := (List.getElem?_eq_some_iff.1 h).1
  unfold tnL
  rw [List.getElem?_append_right (by simp; omega)]
  simp [List.getElem?_drop]
  rw [show i + (i - min i l.length) = i by omega, h]
theorem tnL_set {t : BitVec 8} {l : List (BitVec 8)} {i : Nat} {x : BitVec 8} (h : l[i]? = some x) : (tnL t l i).set i (x ^^^ t) = tnL t l (i + 1) := by
  have hi := (List.getElem?_eq_some_iff.1 h).1
  unfold tnL
  rw [List.set_append_right _ _ (by simp; omega)]
  have e1 : i - ((l.take i).map (· ^^^ t)).length = 0 := by simp; omega
  have e2 : l.drop i = x :: l.drop (i + 1) := by
    rw [List.drop_eq_getElem_cons hi]
    rw [List.getElem?_eq_getElem hi] at h
    cases h; rfl
  rw [e1, e2, List.set_cons_zero, List.take_add_one, h]
  simp
theorem tnL_zero (t : BitVec 8) (l : List (BitVec 8)) : tnL t l 0 = l := by simp [tnL]
def keyK (key : List (BitVec 8)) : List (BitVec 8) := if key.length > 64 then shaL key else key
theorem keyK_length (key : List (BitVec 8)) : (keyK key).length ≤ 64 := by
  unfold keyK
  split
  · rw [shaL_length]; omega
  · omega
def keyB (key : List (BitVec 8)) : List (BitVec 8) := keyK key ++ List.replicate (64 - (keyK key).length) 0#8
theorem keyB_length (key : List (BitVec 8)) : (keyB key).length = 64 := by have := keyK_length key; simp [keyB]; omega
def padK (key : List (BitVec 8)) (t : BitVec 8) : List (BitVec 8) := tnL t (keyB key) 64
theorem padK_length (key : List (BitVec 8)) (t : BitVec 8) : (padK key t).length = 64 := by rw [padK, tnL_length, keyB_length]
def hmacI (key b : List (BitVec 8)) : List (BitVec 8) := shaL (padK key 54#8 ++ b)
def hmacL (key b : List (BitVec 8)) : List (BitVec 8) := shaL (padK key 92#8 ++ hmacI key b)
theorem hmacI_length (key b : List (BitVec 8)) : (hmacI key b).length = 32 := shaL_length _
theorem hmacL_length (key b : List (BitVec 8)) : (hmacL key b).length = 32 := shaL_length _
theorem pad64 {l : List (BitVec 8)} (h : l.length ≤ 64) : padE l.length 64 = 0 ∧ padL l 64 = l ++ List.replicate (64 - l.length) 0#8 := by
  have hE : padE l.length 64 = 0 := by unfold padE; rw [if_neg (by omega), if_neg (by omega)]
  exact ⟨hE, by unfold padL; rw [if_pos hE]; rfl⟩

theorem padded_b (w : World) {p : Option Addr} {n : Nat} (c : Nat) {key : List (BitVec 8)} (t : BitVec 8) (ha : By w p n key) (hnb : n ≤ 140737488355200) :
    Spec Try.prog 101 #[.slice p n c, b8 t] w (σ := Ow) (fun _ => True) (fun x => x.sl 64) Nob (fun x => [x.ck 5 1 (bs (padK key t))]) := by
  refine enter Try.func101 rfl rfl (Mem.start w) ?_
  have hkl := ha.len
  have hkk := keyK_length key
  have hkb := keyB_length key
  have hpad := pad64 hkk
  have hkB : padL (keyK key) 64 = keyB key := hpad.2
  (repeat refine g_seq ?_)
  refine g_region ?_
  refine g_pu rfl rfl rfl (pu_assign rfl rfl) ?_
  refine g_nil ?_
  by_cases h64 : n > 64
  · have hK : keyK key = shaL key := by unfold keyK; rw [if_pos (by omega)]
    have hsl := shaL_length key
    (repeat refine g_seq ?_)
    refine g_region ?_
    refine g_pu rfl rfl rfl (pu_move rfl rfl) ?_
    first | refine g_pu rfl rfl rfl (pu_len rfl rfl) ?_ | refine g_pu rfl rfl rfl (pu_lenS rfl rfl) ?_
    first | refine g_pu rfl rfl rfl (pu_gtr_t rfl rfl rfl (by omega)) ?_ | refine g_pu rfl rfl rfl (pu_gtr_f rfl rfl rfl (by omega)) ?_ | refine g_pu rfl rfl rfl (pu_gtr rfl rfl rfl) ?_
    refine g_nil ?_
    (repeat refine g_seq ?_)
    refine g_cond_t rfl ?_
    (repeat refine g_seq ?_)
    refine g_region ?_
    refine g_pu rfl rfl rfl (pu_move rfl rfl) ?_
    refine g_lo [13] rfl rfl rfl rfl (lo_buildSlice rfl rfl (by decide) (by decide) rfl rfl) (fun b13 hb13 => ?_)
    refine g_call [] rfl rfl rfl rfl rfl rfl (fun w' hm => ShaSum_g w' 1 (LL := [.slice p n c]) (ls := [key]) ⟨hm.rowA 13 rfl, rfl, All2.cons ⟨_, _, _, rfl, ha.m hm, fun _ _ => trivial⟩ All2.nil, by omega⟩ (fun l hl => by obtain rfl := List.mem_singleton.1 hl; omega) (by rw [flat1]; omega)) (fun _ _ => ?_)
    rw [flat1, ← hK]
    refine g_lo [5] rfl rfl rfl rfl (lo_alloc rfl) (fun b5 hb5 => ?_)
    refine g_storeL 5 (s := 32) (C := bs (keyK key)) rfl rfl rfl rfl rfl rfl (by rw [bs_length, hK, hsl]) rfl (oneCell_bs _) ?_
    refine g_nil ?_
    (repeat refine g_seq ?_)
    refine g_region ?_
    refine g_pu rfl rfl rfl (pu_sliceA rfl rfl) ?_
    refine g_pu rfl rfl rfl (pu_assign rfl rfl) ?_
    refine g_nil ?_
    (repeat refine g_seq ?_)
    refine g_region ?_
    refine g_pu rfl rfl rfl (pu_move rfl rfl) ?_
    refine g_call [18] rfl rfl rfl rfl rfl rfl (fun w' hm => Pad_spec w' _ 32 32 (keyK key) 64 (hm.rowA 5 rfl) (by rw [hK, hsl]) (by omega)) (fun x18 _ => ?_)
    rw [hkB, hkb]
    refine g_pu rfl rfl rfl (pu_move rfl rfl) ?_
    refine g_pu rfl rfl rfl (pu_extract rfl rfl rfl) ?_
    refine g_pu rfl rfl rfl (pu_extract rfl rfl rfl) ?_
    refine g_pu rfl rfl rfl (pu_assign rfl rfl) ?_
    refine g_pu rfl rfl rfl (pu_assign rfl rfl) ?_
    refine g_nil ?_
    (repeat refine g_seq ?_)
    refine g_region ?_
    refine g_pu rfl rfl rfl (pu_move rfl rfl) ?_
    first | refine g_pu rfl rfl rfl (pu_len rfl rfl) ?_ | refine g_pu rfl rfl rfl (pu_lenS rfl rfl) ?_
    refine g_pu rfl rfl rfl (pu_move rfl rfl) ?_
    refine g_nil ?_
    refine g_block (g_loop (σ := Nat) (fun i => [(1, b8 t), (6, x18.sl 64), (22, .int .i64 64), (23, .int .i64 (i : Int))]) (fun i => [(18, x18.ck 5 1 (bs (tnL t (keyB key) i)))]) (fun i => i ≤ 64) (fun i => 64 - i) 0 ⟨rfl, rfl, rfl, rfl, trivial⟩ ⟨by rw [tnL_zero]; rfl, trivial⟩ (by omega) ?_)
    intro i hi
    by_cases hlt : i < 64
    · (repeat refine g_seq ?_)
      refine g_region ?_
      first | refine g_pu rfl rfl rfl (pu_lss_t rfl rfl rfl (by omega)) ?_ | refine g_pu rfl rfl rfl (pu_lss_f rfl rfl rfl (by omega)) ?_ | refine g_pu rfl rfl rfl (pu_lss rfl rfl rfl) ?_
      refine g_nil ?_
      (repeat refine g_seq ?_)
      refine g_cond_t rfl (g_skip ?_)
      have h1 : (keyB key)[i]? = some ((keyB key).getD i 0#8) := getD_some (by omega)
      have hol := tnL_length t (keyB key) i
      obtain ⟨xp, xc⟩ := x18
      (repeat refine g_seq ?_); refine g_block ?_
      refine g_row 18 rfl (by rw [bs_length]; omega) (fun bb J hp hJ hcap => ?_)
      simp only at hp
      subst hp
      (repeat refine g_seq ?_)
      refine g_region ?_
      refine g_pu rfl rfl rfl (pu_move rfl rfl) ?_
      refine g_pu rfl rfl rfl (pu_assign rfl rfl) ?_
      refine g_nil ?_
      (repeat refine g_seq ?_)
      refine g_region ?_
      refine g_pu rfl rfl rfl (pu_move rfl rfl) ?_
      refine g_pu rfl rfl rfl (pu_move rfl rfl) ?_
      refine g_pu rfl rfl rfl (pu_at1 i rfl rfl rfl rfl hlt) ?_
      refine g_pu rfl rfl rfl (pu_load 18 rfl rfl rfl (bs_load (tnL_get h1))) ?_
      refine g_pu rfl rfl rfl (pu_move rfl rfl) ?_
      refine g_pu rfl rfl rfl (pu_xor8 rfl rfl rfl) ?_
      refine g_pu rfl rfl rfl (pu_at1 i rfl rfl rfl rfl hlt) ?_
      refine g_store 18 (v := b8 ((keyB key).getD i 0#8 ^^^ t)) rfl rfl rfl rfl rfl rfl rfl (by rw [List.length_append, bs_length]; omega) ?_
      rw [Nat.zero_add, bs_set _ J i _ (by omega), tnL_set h1]
      refine g_nil ?_
      refine g_own 18 (L := bs (tnL t (keyB key) (i + 1))) (J := J) (c := xc) (s := 1) rfl (by simp only [List.length_append, bs_length, tnL_length] at hJ ⊢; omega) hcap ?_
      refine g_blk ?_
      (repeat refine g_seq ?_)
      refine g_region ?_
      refine g_pu rfl rfl rfl (pu_addI rfl rfl rfl (by omega)) ?_
      refine g_pu rfl rfl rfl (pu_move rfl rfl) ?_
      refine g_nil ?_
      exact g_round (i + 1) (by omega) (by omega) ⟨rfl, rfl, rfl, rfl, trivial⟩ ⟨rfl, trivial⟩
    · (repeat refine g_seq ?_)
      refine g_region ?_
      first | refine g_pu rfl rfl rfl (pu_lss_t rfl rfl rfl (by omega)) ?_ | refine g_pu rfl rfl rfl (pu_lss_f rfl rfl rfl (by omega)) ?_ | refine g_pu rfl rfl rfl (pu_lss rfl rfl rfl) ?_
      refine g_nil ?_
      (repeat refine g_seq ?_)
      refine g_cond_f rfl (g_exit rfl ?_)
      have e : i = 64 := by omega
      subst e
      (repeat refine g_seq ?_)
      refine g_region ?_
      refine g_pu rfl rfl rfl (pu_move rfl rfl) ?_
      refine g_pu rfl rfl rfl (pu_assign rfl rfl) ?_
      refine g_nil ?_
      exact g_ret1 rfl rfl (fun w' hm => ⟨x18, trivial, rfl, hm.grows [18] ⟨rfl, trivial⟩ rfl⟩)
  · have hK : keyK key = key := by unfold keyK; rw [if_neg (by omega)]
    have hpl : padE n 64 = 0 := by have := hpad.1; rwa [hK, hkl] at this
    (repeat refine g_seq ?_)
    refine g_region ?_
    refine g_pu rfl rfl rfl (pu_move rfl rfl) ?_
    first | refine g_pu rfl rfl rfl (pu_len rfl rfl) ?_ | refine g_pu rfl rfl rfl (pu_lenS rfl rfl) ?_
    first | refine g_pu rfl rfl rfl (pu_gtr_t rfl rfl rfl (by omega)) ?_ | refine g_pu rfl rfl rfl (pu_gtr_f rfl rfl rfl (by omega)) ?_ | refine g_pu rfl rfl rfl (pu_gtr rfl rfl rfl) ?_
    refine g_nil ?_
    (repeat refine g_seq ?_)
    refine g_cond_f rfl (g_skip ?_)
    (repeat refine g_seq ?_)
    refine g_region ?_
    refine g_pu rfl rfl rfl (pu_move rfl rfl) ?_
    refine g_call [18] rfl rfl rfl rfl rfl rfl (fun w' hm => Pad_spec w' _ n c key 64 (ha.m hm).rd hkl (by omega)) (fun x18 _ => ?_)
    rw [show padL key 64 = keyB key by rw [← hkB, hK], hkb, hpl]
    refine g_pu rfl rfl rfl (pu_move rfl rfl) ?_
    refine g_pu rfl rfl rfl (pu_extract rfl rfl rfl) ?_
    refine g_pu rfl rfl rfl (pu_extract rfl rfl rfl) ?_
    refine g_pu rfl rfl rfl (pu_assign rfl rfl) ?_
    refine g_pu rfl rfl rfl (pu_assign rfl rfl) ?_
    refine g_nil ?_
    (repeat refine g_seq ?_)
    refine g_region ?_
    refine g_pu rfl rfl rfl (pu_move rfl rfl) ?_
    first | refine g_pu rfl rfl rfl (pu_len rfl rfl) ?_ | refine g_pu rfl rfl rfl (pu_lenS rfl rfl) ?_
    refine g_pu rfl rfl rfl (pu_move rfl rfl) ?_
    refine g_nil ?_
    refine g_block (g_loop (σ := Nat) (fun i => [(1, b8 t), (6, x18.sl 64), (22, .int .i64 64), (23, .int .i64 (i : Int))]) (fun i => [(18, x18.ck 5 1 (bs (tnL t (keyB key) i)))]) (fun i => i ≤ 64) (fun i => 64 - i) 0 ⟨rfl, rfl, rfl, rfl, trivial⟩ ⟨by rw [tnL_zero]; rfl, trivial⟩ (by omega) ?_)
    intro i hi
    by_cases hlt : i < 64
    · (repeat refine g_seq ?_)
      refine g_region ?_
      first | refine g_pu rfl rfl rfl (pu_lss_t rfl rfl rfl (by omega)) ?_ | refine g_pu rfl rfl rfl (pu_lss_f rfl rfl rfl (by omega)) ?_ | refine g_pu rfl rfl rfl (pu_lss rfl rfl rfl) ?_
      refine g_nil ?_
      (repeat refine g_seq ?_)
      refine g_cond_t rfl (g_skip ?_)
      have h1 : (keyB key)[i]? = some ((keyB key).getD i 0#8) := getD_some (by omega)
      have hol := tnL_length t (keyB key) i
      obtain ⟨xp, xc⟩ := x18
      (repeat refine g_seq ?_); refine g_block ?_
      refine g_row 18 rfl (by rw [bs_length]; omega) (fun bb J hp hJ hcap => ?_)
      simp only at hp
      subst hp
      (repeat refine g_seq ?_)
      refine g_region ?_
      refine g_pu rfl rfl rfl (pu_move rfl rfl) ?_
      refine g_pu rfl rfl rfl (pu_assign rfl rfl) ?_
      refine g_nil ?_
      (repeat refine g_seq ?_)
      refine g_region ?_
      refine g_pu rfl rfl rfl (pu_move rfl rfl) ?_
      refine g_pu rfl rfl rfl (pu_move rfl rfl) ?_
      refine g_pu rfl rfl rfl (pu_at1 i rfl rfl rfl rfl hlt) ?_
      refine g_pu rfl rfl rfl (pu_load 18 rfl rfl rfl (bs_load (tnL_get h1))) ?_
      refine g_pu rfl rfl rfl (pu_move rfl rfl) ?_
      refine g_pu rfl rfl rfl (pu_xor8 rfl rfl rfl) ?_
      refine g_pu rfl rfl rfl (pu_at1 i rfl rfl rfl rfl hlt) ?_
      refine g_store 18 (v := b8 ((keyB key).getD i 0#8 ^^^ t)) rfl rfl rfl rfl rfl rfl rfl (by rw [List.length_append, bs_length]; omega) ?_
      rw [Nat.zero_add, bs_set _ J i _ (by omega), tnL_set h1]
      refine g_nil ?_
      refine g_own 18 (L := bs (tnL t (keyB key) (i + 1))) (J := J) (c := xc) (s := 1) rfl (by simp only [List.length_append, bs_length, tnL_length] at hJ ⊢; omega) hcap ?_
      refine g_blk ?_
      (repeat refine g_seq ?_)
      refine g_region ?_
      refine g_pu rfl rfl rfl (pu_addI rfl rfl rfl (by omega)) ?_
      refine g_pu rfl rfl rfl (pu_move rfl rfl) ?_
      refine g_nil ?_
      exact g_round (i + 1) (by omega) (by omega) ⟨rfl, rfl, rfl, rfl, trivial⟩ ⟨rfl, trivial⟩
    · (repeat refine g_seq ?_)
      refine g_region ?_
      first | refine g_pu rfl rfl rfl (pu_lss_t rfl rfl rfl (by omega)) ?_ | refine g_pu rfl rfl rfl (pu_lss_f rfl rfl rfl (by omega)) ?_ | refine g_pu rfl rfl rfl (pu_lss rfl rfl rfl) ?_
      refine g_nil ?_
      (repeat refine g_seq ?_)
      refine g_cond_f rfl (g_exit rfl ?_)
      have e : i = 64 := by omega
      subst e
      (repeat refine g_seq ?_)
      refine g_region ?_
      refine g_pu rfl rfl rfl (pu_move rfl rfl) ?_
      refine g_pu rfl rfl rfl (pu_assign rfl rfl) ?_
      refine g_nil ?_
      exact g_ret1 rfl rfl (fun w' hm => ⟨x18, trivial, rfl, hm.grows [18] ⟨rfl, trivial⟩ rfl⟩)

/-- A tagger: its cells. -/
def tagC (L : List (BitVec 8)) (y xo : Ow) : List Value := hashC L y ++ [xo.sl 64]

theorem NewTagger_b (w : World) {p : Option Addr} {n : Nat} (c : Nat) {key : List (BitVec 8)} (ha : By w p n key) (hnb : n ≤ 140737488355200) :
    Spec Try.prog 86 #[.slice p n c] w (σ := Nat × Ow × Ow) (fun _ => True) (fun s => .pointer (some ⟨s.1, 0, none⟩)) Nob (fun s => [.pt s.1 (.cells (tagC (padK key 54#8) s.2.1 s.2.2).toArray 150 (0, 0)), s.2.1.ckO 5 (bs (restL (padK key 54#8))), s.2.2.ck 5 1 (bs (padK key 92#8))]) := by
  refine enter Try.func86 rfl rfl (Mem.start w) ?_
  have hpl := padK_length key 54#8
  (repeat refine g_seq ?_)
  refine g_region ?_
  refine g_pu rfl rfl rfl (pu_assign rfl rfl) ?_
  refine g_nil ?_
  (repeat refine g_seq ?_)
  refine g_region ?_
  refine g_pu rfl rfl rfl (pu_move rfl rfl) ?_
  refine g_call [5] rfl rfl rfl rfl rfl rfl (fun w' hm => padded_b w' c 92#8 (ha.m hm) hnb) (fun x5 _ => ?_)
  refine g_pu rfl rfl rfl (pu_buildS (cs := hashC [] ⟨none, 0⟩ ++ [x5.sl 64]) rfl rfl rfl) ?_
  refine g_lo [7] rfl rfl rfl rfl (lo_box rfl rfl) (fun b7 hb7 => ?_)
  refine g_pu rfl rfl rfl (pu_assign rfl rfl) ?_
  refine g_nil ?_
  refine g_nilO 107 5 rfl ?_
  (repeat refine g_seq ?_)
  refine g_any (4, [0, 1, 2]) ?_
  first | refine a_mv 0 rfl rfl rfl rfl (fun _ => (pu_move rfl rfl)) rfl rfl rfl (by kernel_rfl) (by kernel_rfl) (by kernel_rfl) rfl ?_
  first | refine a_mv 1 rfl rfl rfl rfl (fun _ => (pu_nil rfl rfl)) rfl rfl rfl (by kernel_rfl) (by kernel_rfl) (by kernel_rfl) rfl ?_
  first | refine a_mv 2 rfl rfl rfl rfl (fun _ => (pu_fieldAddr (by decide) rfl rfl)) rfl rfl rfl (by kernel_rfl) (by kernel_rfl) (by kernel_rfl) rfl ?_
  refine a_pu 3 rfl rfl rfl rfl (pu_move rfl rfl) rfl rfl (by kernel_rfl) ?_
  refine a_tail [4, 5, 6] (by kernel_rfl) rfl rfl (by kernel_rfl) ?_
  refine g_call [12] rfl rfl rfl rfl rfl rfl (fun w' hm => padded_b w' c 54#8 (ha.m hm) hnb) (fun x12 _ => ?_)
  refine g_lo [13] rfl rfl rfl rfl (lo_buildSlice rfl rfl (by decide) (by decide) rfl rfl) (fun b13 hb13 => ?_)
  refine g_callW [7, 107] [7, 107] rfl rfl rfl rfl rfl rfl (fun j hj => hj.elim (fun h => ⟨7, by simp, _, rfl, h⟩) (fun h => absurd h At.none)) (fun w' hm => Write_g w' b7 (L := []) (J := [x5.sl 64]) ⟨none, 0⟩ 1 (LL := [x12.sl 64]) (ls := [padK key 54#8]) (hm.holds 7 _ rfl) (hm.holds 107 _ rfl) (fun j hj => absurd hj At.none) (fun j hj => absurd hj At.none) (hm.rowA 13 rfl) rfl (All2.cons (IsB.own 12 rfl hm hpl (by omega)) All2.nil) (fun _ b o e hb => by cases e; exact hb.elim (fun h1 => hm.apart 13 _ 7 _ rfl rfl (by decide) _ rfl h1) (fun h1 => At.none h1)) (fun q m c hv _ j hj hb => by cases List.mem_singleton.1 hv; exact hb.elim (fun h1 => hm.apart 12 _ 7 _ rfl rfl (by decide) j hj h1) (fun h1 => At.none h1)) (by omega) (fun l hl => by obtain rfl := List.mem_singleton.1 hl; omega) (by rw [flat1, hpl]; simp only [List.length_nil]; omega)) (fun y _ => ?_)
  rw [flat1, List.nil_append]
  refine g_nil ?_
  (repeat refine g_seq ?_)
  refine g_region ?_
  refine g_pu rfl rfl rfl (pu_move rfl rfl) ?_
  refine g_pu rfl rfl rfl (pu_assign rfl rfl) ?_
  refine g_nil ?_
  exact g_ret1 rfl rfl (fun w' hm => ⟨(b7, y, x5), trivial, rfl, hm.grows [7, 107, 5] ⟨rfl, rfl, rfl, trivial⟩ rfl⟩)

theorem TSum_b (w : World) (bb : Nat) {E : TypeId} {L ob : List (BitVec 8)} (y xo : Ow) (h : w.heap[bb]? = some (.cells (tagC L y xo).toArray E (0, 0))) (ho : RdV w y.p (bs (restL L))) (hx : By w xo.p 64 ob) (hbig : L.length ≤ 36028797018963968) :
    Spec Try.prog 70 #[.pointer (some ⟨bb, 0, none⟩)] w (σ := Unit) (fun _ => True) (fun _ => .agg (bs (shaL (ob ++ shaL L))).toArray) Nob (fun _ => []) := by
  refine enter Try.func70 rfl rfl (Mem.start w) ?_
  have hr : RdV w (some ⟨bb, 0, none⟩) (tagC L y xo) := RdV.row (J := []) (by rw [List.append_nil]; exact h)
  have h10 : (tagC L y xo)[10]? = some (xo.sl 64) := by
    unfold tagC
    rw [List.getElem?_append_right (by show (flowC _ _ _ _ _).length ≤ 10; rw [flowC_length (flowS_length L)]; omega)]
    rw [show 10 - (hashC L y).length = 0 by show 10 - (flowC _ _ _ _ _).length = 0; rw [flowC_length (flowS_length L)]]
    rfl
  have hsl := shaL_length L
  have hobl := hx.len
  (repeat refine g_seq ?_)
  refine g_region ?_
  refine g_lo [2] rfl rfl rfl rfl (lo_alloc rfl) (fun b2 hb2 => ?_)
  refine g_nil ?_
  (repeat refine g_seq ?_)
  refine g_region ?_
  refine g_pu rfl rfl rfl (pu_move rfl rfl) ?_
  refine g_pu rfl rfl rfl (pu_nil rfl rfl) ?_
  refine g_pu rfl rfl rfl (pu_fieldAddr (by decide) rfl rfl) ?_
  refine g_call [] rfl rfl rfl rfl rfl rfl (fun w' hm => HashSum_b w' bb (L := L) (J := [xo.sl 64]) y (hm.oldC h (fun h => h)) (ho.mem0 hm) hbig) (fun _ _ => ?_)
  refine g_lo [3] rfl rfl rfl rfl (lo_alloc rfl) (fun b3 hb3 => ?_)
  refine g_storeL 3 (s := 32) (C := bs (shaL L)) rfl rfl rfl rfl rfl rfl (by rw [bs_length, hsl]) rfl (oneCell_bs _) ?_
  refine g_nil ?_
  (repeat refine g_seq ?_)
  refine g_any (5, []) ?_
  refine a_pu 0 rfl rfl rfl rfl (pu_move rfl rfl) rfl rfl (by kernel_rfl) ?_
  refine a_pu 1 rfl rfl rfl rfl (pu_nil rfl rfl) rfl rfl (by kernel_rfl) ?_
  refine a_pu 2 rfl rfl rfl rfl (pu_fieldAddr (by decide) rfl rfl) rfl rfl (by kernel_rfl) ?_
  refine a_pu 3 rfl rfl rfl rfl (pu_rdM (j := 10) (fun w' hm => hr.mem0 hm) rfl rfl h10) rfl rfl (by kernel_rfl) ?_
  refine a_pu 4 rfl rfl rfl rfl (pu_sliceA rfl rfl) rfl rfl (by kernel_rfl) ?_
  refine a_tail [5, 6, 7] (by kernel_rfl) rfl rfl (by kernel_rfl) ?_
  refine g_lo [13] rfl rfl rfl rfl (lo_buildSlice rfl rfl (by decide) (by decide) rfl rfl) (fun b13 hb13 => ?_)
  refine g_call [] rfl rfl rfl rfl rfl rfl (fun w' hm => ShaSum_b w' 2 (LL := [xo.sl 64, .slice (some ⟨b3, 0, none⟩) 32 32]) (ls := [ob, shaL L]) ⟨hm.rowA 13 rfl, rfl, All2.cons ⟨_, _, _, rfl, hx.m hm, fun _ _ => trivial⟩ (All2.cons (IsB.full 3 rfl hm hsl (by omega)) All2.nil), by omega⟩ (by rw [flat2, List.length_append]; omega)) (fun _ _ => ?_)
  rw [flat2]
  refine g_storeL 2 (s := 32) (C := bs (shaL (ob ++ shaL L))) rfl rfl rfl rfl rfl rfl (by rw [bs_length, shaL_length]) rfl (oneCell_bs _) ?_
  refine g_nil ?_
  exact g_retL 2 (L := bs (shaL (ob ++ shaL L))) rfl (by rw [bs_length, shaL_length]) rfl rfl (fun w' hm => ⟨(), trivial, rfl, hm.grows [] trivial rfl⟩)

theorem tagger_b (w : World) {p q : Option Addr} {n m : Nat} (c d : Nat) {key : List (BitVec 8)} {LL : List Value} {ls : List (List (BitVec 8))} (ha : By w p n key) (hb : ByL w q m LL ls) (hnb : n ≤ 140737488355200) (hsm : ∀ l ∈ ls, l.length ≤ 140737488355200) (hbig : ls.flatten.length ≤ 18014398509481984) :
    Spec Try.prog 69 #[.slice p n c, .slice q m d] w (σ := Nat × Ow × Ow) (fun _ => True) (fun s => .pointer (some ⟨s.1, 0, none⟩)) Nob (fun s => [.pt s.1 (.cells (tagC (padK key 54#8 ++ ls.flatten) s.2.1 s.2.2).toArray 150 (0, 0)), s.2.1.ckO 5 (bs (restL (padK key 54#8 ++ ls.flatten))), s.2.2.ck 5 1 (bs (padK key 92#8))]) := by
  refine enter Try.func69 rfl rfl (Mem.start w) ?_
  have hpl := padK_length key 54#8
  have hmb := hb.big
  (repeat refine g_seq ?_)
  refine g_region ?_
  refine g_pu rfl rfl rfl (pu_assign rfl rfl) ?_
  refine g_nil ?_
  (repeat refine g_seq ?_)
  refine g_region ?_
  refine g_pu rfl rfl rfl (pu_move rfl rfl) ?_
  refine g_call [7, 107, 207] rfl rfl rfl rfl rfl rfl (fun w' hm => NewTagger_b w' c (ha.m hm) hnb) (fun x7 _ => ?_)
  refine g_pu rfl rfl rfl (pu_assign rfl rfl) ?_
  refine g_nil ?_
  refine g_know (φ := w.heap.size ≤ x7.1 ∧ ∀ j, At x7.2.1.p j → w.heap.size ≤ j) (fun w' hm => ⟨(hm.above 7 _ rfl x7.1 rfl).resolve_right (fun h => h), fun j hj => (hm.above 107 _ rfl j hj).resolve_right (fun h => h)⟩) (fun hab => ?_)
  (repeat refine g_seq ?_)
  refine g_region ?_
  refine g_pu rfl rfl rfl (pu_move rfl rfl) ?_
  refine g_pu rfl rfl rfl (pu_nil rfl rfl) ?_
  refine g_pu rfl rfl rfl (pu_fieldAddr (by decide) rfl rfl) ?_
  refine g_pu rfl rfl rfl (pu_move rfl rfl) ?_
  refine g_callW [7, 107] [7, 107] rfl rfl rfl rfl rfl rfl (fun j hj => hj.elim (fun h => ⟨7, by simp, _, rfl, h⟩) (fun h => ⟨107, by simp, _, rfl, h⟩)) (fun w' hm => Write_g w' x7.1 (L := padK key 54#8) (J := [x7.2.2.sl 64]) x7.2.1 d (LL := LL) (ls := ls) (hm.holds 7 _ rfl) (hm.holds 107 _ rfl) (fun j hj he => hm.apart 107 _ 7 _ rfl rfl (by decide) j hj he) (fun j hj => hm.below 107 _ rfl j hj) (hb.m hm).rd hb.len (hb.m hm).els (fun h0 b o e hb2 => by have h3 := hb.lt1 h0 b o e; exact hb2.elim (fun h1 => by have := hab.1; omega) (fun h1 => by have := hab.2 b h1; omega)) (fun q m c hv h0 j hj hb2 => by have h3 := hb.lt2 q m c hv h0 j hj; exact hb2.elim (fun h1 => by have := hab.1; omega) (fun h1 => by have := hab.2 j h1; omega)) (by omega) hsm (by rw [hpl]; omega)) (fun y _ => ?_)
  refine g_nil ?_
  (repeat refine g_seq ?_)
  refine g_region ?_
  refine g_pu rfl rfl rfl (pu_move rfl rfl) ?_
  refine g_pu rfl rfl rfl (pu_assign rfl rfl) ?_
  refine g_nil ?_
  exact g_ret1 rfl rfl (fun w' hm => ⟨(x7.1, y, x7.2.2), trivial, rfl, hm.grows [7, 107, 207] ⟨rfl, rfl, rfl, trivial⟩ rfl⟩)

theorem Tag_b (w : World) {p q : Option Addr} {n m : Nat} (c d : Nat) {key : List (BitVec 8)} {LL : List Value} {ls : List (List (BitVec 8))} (ha : By w p n key) (hb : ByL w q m LL ls) (hnb : n ≤ 140737488355200) (hsm : ∀ l ∈ ls, l.length ≤ 140737488355200) (hbig : ls.flatten.length ≤ 18014398509481984) :
    Spec Try.prog 50 #[.slice p n c, .slice q m d] w (σ := Unit) (fun _ => True) (fun _ => .agg (bs (hmacL key ls.flatten)).toArray) Nob (fun _ => []) := by
  refine enter Try.func50 rfl rfl (Mem.start w) ?_
  have hpl := padK_length key 54#8
  have hpl2 := padK_length key 92#8
  have hhl := hmacL_length key ls.flatten
  (repeat refine g_seq ?_)
  refine g_region ?_
  refine g_lo [4] rfl rfl rfl rfl (lo_alloc rfl) (fun b4 hb4 => ?_)
  refine g_nil ?_
  (repeat refine g_seq ?_)
  refine g_region ?_
  refine g_pu rfl rfl rfl (pu_move rfl rfl) ?_
  refine g_pu rfl rfl rfl (pu_move rfl rfl) ?_
  refine g_call [7, 107, 207] rfl rfl rfl rfl rfl rfl (fun w' hm => tagger_b w' c d (ha.m hm) (hb.m hm) hnb hsm hbig) (fun x7 _ => ?_)
  refine g_call [] rfl rfl rfl rfl rfl rfl (fun w' hm => TSum_b w' x7.1 (L := padK key 54#8 ++ ls.flatten) (ob := padK key 92#8) x7.2.1 x7.2.2 (hm.holds 7 _ rfl) (OwnO.rd (hm.holds 107 _ rfl)) (By.ow 207 rfl hm hpl2 (by omega)) (by rw [List.length_append, hpl]; omega)) (fun _ _ => ?_)
  rw [show shaL (padK key 92#8 ++ shaL (padK key 54#8 ++ ls.flatten)) = hmacL key ls.flatten from rfl]
  refine g_storeL 4 (s := 32) (C := bs (hmacL key ls.flatten)) rfl rfl rfl rfl rfl rfl (by rw [bs_length, hhl]) rfl (oneCell_bs _) ?_
  refine g_nil ?_
  exact g_retL 4 (L := bs (hmacL key ls.flatten)) rfl (by rw [bs_length, hhl]) rfl rfl (fun w' hm => ⟨(), trivial, rfl, hm.grows [] trivial rfl⟩)

theorem Extract_b (w : World) {p q : Option Addr} {n m : Nat} (c d : Nat) {key b : List (BitVec 8)} (ha : By w p n key) (hb : By w q m b) (hnb : n ≤ 140737488355200) (hmb : m ≤ 140737488355200) :
    Spec Try.prog 35 #[.slice p n c, .slice q m d] w (σ := Unit) (fun _ => True) (fun _ => .agg (bs (hmacL key b)).toArray) Nob (fun _ => []) := by
  refine enter Try.func35 rfl rfl (Mem.start w) ?_
  have hhl := hmacL_length key b
  have hbl := hb.len
  (repeat refine g_seq ?_)
  refine g_region ?_
  refine g_lo [4] rfl rfl rfl rfl (lo_alloc rfl) (fun b4 hb4 => ?_)
  refine g_nil ?_
  (repeat refine g_seq ?_)
  refine g_region ?_
  refine g_pu rfl rfl rfl (pu_move rfl rfl) ?_
  refine g_pu rfl rfl rfl (pu_move rfl rfl) ?_
  refine g_lo [7] rfl rfl rfl rfl (lo_buildSlice rfl rfl (by decide) (by decide) rfl rfl) (fun b7 hb7 => ?_)
  refine g_call [] rfl rfl rfl rfl rfl rfl (fun w' hm => Tag_b w' c 1 (LL := [.slice q m d]) (ls := [b]) (ha.m hm) ⟨hm.rowA 7 rfl, rfl, All2.cons ⟨_, _, _, rfl, hb.m hm, fun _ _ => trivial⟩ All2.nil, by omega⟩ hnb (fun l hl => by obtain rfl := List.mem_singleton.1 hl; omega) (by rw [flat1]; omega)) (fun _ _ => ?_)
  rw [flat1]
  refine g_storeL 4 (s := 32) (C := bs (hmacL key b)) rfl rfl rfl rfl rfl rfl (by rw [bs_length, hhl]) rfl (oneCell_bs _) ?_
  refine g_nil ?_
  exact g_retL 4 (L := bs (hmacL key b)) rfl (by rw [bs_length, hhl]) rfl rfl (fun w' hm => ⟨(), trivial, rfl, hm.grows [] trivial rfl⟩)
end Go.Sx

/-
  The document's key blocks and tags. Each list has at most 2^47 - 4096 bytes.
-/
namespace Go.Sx
open Go Go.Proofs

theorem copyZ {l : List (BitVec 8)} (h : l.length ≤ 64) : (bs (List.replicate 64 0#8)).take 0 ++ (bs l).take (Nat.min l.length 64) ++ (bs (List.replicate 64 0#8)).drop (0 + Nat.min l.length 64) = bs (l ++ List.replicate (64 - l.length) 0#8) := by
  have e : Nat.min l.length 64 = l.length := Nat.min_eq_left h
  rw [e, List.take_zero, List.nil_append, List.take_of_length_le (by rw [bs_length]; omega), bs_drop, ← bs_append, List.drop_replicate, Nat.zero_add]

theorem RPadM_b (w : World) {p : Option Addr} {n : Nat} (c : Nat) {key : List (BitVec 8)} (t : BitVec 8) (ha : By w p n key) (hnb : n ≤ 140737488355200) :
    Spec Try.prog 54 #[.slice p n c, b8 t] w (σ := Ow) (fun _ => True) (fun x => x.sl 64) Nob (fun x => [x.ck 5 1 (bs (padK key t))]) := by
  refine enter Try.func54 rfl rfl (Mem.start w) ?_
  have hkl := ha.len
  have hkk := keyK_length key
  have hkb := keyB_length key
  (repeat refine g_seq ?_)
  refine g_region ?_
  refine g_pu rfl rfl rfl (pu_assign rfl rfl) ?_
  refine g_nil ?_
  (repeat refine g_seq ?_)
  refine g_region ?_
  refine g_lo [8] rfl rfl rfl rfl (lo_make (n := 64) (c := 64) rfl rfl rfl (by omega) (by omega) (by omega) rfl) (fun kb hkb8 => ?_)
  refine g_pu rfl rfl rfl (pu_assign rfl rfl) ?_
  refine g_nil ?_
  by_cases h64 : n > 64
  · have hK : keyK key = shaL key := by unfold keyK; rw [if_pos (by omega)]
    have hsl := shaL_length key
    have hz : (bs (List.replicate 64 0#8)).take 0 ++ (bs (keyK key)).take (Nat.min 32 64) ++ (bs (List.replicate 64 0#8)).drop (0 + Nat.min 32 64) = bs (keyB key) := by
      have hl : 32 = (keyK key).length := by rw [hK, hsl]
      rw [hl]
      exact copyZ hkk
    (repeat refine g_seq ?_)
    refine g_region ?_
    refine g_pu rfl rfl rfl (pu_move rfl rfl) ?_
    first | refine g_pu rfl rfl rfl (pu_len rfl rfl) ?_ | refine g_pu rfl rfl rfl (pu_lenS rfl rfl) ?_
    first | refine g_pu rfl rfl rfl (pu_gtr_t rfl rfl rfl (by omega)) ?_ | refine g_pu rfl rfl rfl (pu_gtr_f rfl rfl rfl (by omega)) ?_ | refine g_pu rfl rfl rfl (pu_gtr rfl rfl rfl) ?_
    refine g_nil ?_
    (repeat refine g_seq ?_)
    refine g_cond_t rfl ?_
    (repeat refine g_seq ?_)
    refine g_region ?_
    refine g_pu rfl rfl rfl (pu_move rfl rfl) ?_
    refine g_call [] rfl rfl rfl rfl rfl rfl (fun w' hm => RSum_b w' c (ha.m hm) (by omega)) (fun _ _ => ?_)
    rw [← hK]
    refine g_lo [6] rfl rfl rfl rfl (lo_alloc rfl) (fun b6 hb6 => ?_)
    refine g_storeL 6 (s := 32) (C := bs (keyK key)) rfl rfl rfl rfl rfl rfl (by rw [bs_length, hK, hsl]) rfl (oneCell_bs _) ?_
    refine g_nil ?_
    (repeat refine g_seq ?_)
    refine g_region ?_
    refine g_pu rfl rfl rfl (pu_move rfl rfl) ?_
    refine g_pu rfl rfl rfl (pu_sliceA rfl rfl) ?_
    refine g_copy 8 (L := bs (List.replicate 64 0#8)) (n := 64) (m := 32) (bs (keyK key)) rfl rfl rfl rfl rfl rfl rfl (fun w' hm => hm.rowA 6 rfl) (by rw [bs_length, hK, hsl]) (by rw [bs_length]; simp) (oneCell_bs _) ?_
    rw [hz]
    refine g_nil ?_
    (repeat refine g_seq ?_)
    refine g_region ?_
    refine g_pu rfl rfl rfl (pu_assign rfl rfl) ?_
    refine g_nil ?_
    refine g_block (g_loop (σ := Nat) (fun i => [(1, b8 t), (5, .slice (some ⟨kb, 0, none⟩) 64 64), (7, .int .i64 (i : Int))]) (fun i => [(8, .pt kb (.cells (bs (tnL t (keyB key) i)).toArray 5 (0, 0)))]) (fun i => i ≤ 64) (fun i => 64 - i) 0 ⟨rfl, rfl, rfl, trivial⟩ ⟨by rw [tnL_zero]; rfl, trivial⟩ (by omega) ?_)
    intro i hi
    by_cases hlt : i < 64
    · (repeat refine g_seq ?_)
      refine g_region ?_
      refine g_pu rfl rfl rfl (pu_move rfl rfl) ?_
      first | refine g_pu rfl rfl rfl (pu_lss_t rfl rfl rfl (by omega)) ?_ | refine g_pu rfl rfl rfl (pu_lss_f rfl rfl rfl (by omega)) ?_ | refine g_pu rfl rfl rfl (pu_lss rfl rfl rfl) ?_
      refine g_nil ?_
      (repeat refine g_seq ?_)
      refine g_cond_t rfl (g_skip ?_)
      have h1 : (keyB key)[i]? = some ((keyB key).getD i 0#8) := getD_some (by omega)
      have hol := tnL_length t (keyB key) i
      (repeat refine g_seq ?_); refine g_block ?_
      (repeat refine g_seq ?_)
      refine g_region ?_
      refine g_pu rfl rfl rfl (pu_move rfl rfl) ?_
      refine g_pu rfl rfl rfl (pu_move rfl rfl) ?_
      refine g_pu rfl rfl rfl (pu_move rfl rfl) ?_
      refine g_pu rfl rfl rfl (pu_move rfl rfl) ?_
      refine g_pu rfl rfl rfl (pu_at1 i rfl rfl rfl rfl hlt) ?_
      refine g_pu rfl rfl rfl (pu_load 8 rfl rfl rfl (by have := bs_load (J := []) (tnL_get (t := t) h1); rwa [List.append_nil] at this)) ?_
      refine g_pu rfl rfl rfl (pu_move rfl rfl) ?_
      refine g_pu rfl rfl rfl (pu_xor8 rfl rfl rfl) ?_
      refine g_pu rfl rfl rfl (pu_at1 i rfl rfl rfl rfl hlt) ?_
      refine g_store 8 (v := b8 ((keyB key).getD i 0#8 ^^^ t)) rfl rfl rfl rfl rfl rfl rfl (by rw [bs_length]; omega) ?_
      rw [Nat.zero_add, show ((bs (tnL t (keyB key) i)).set i (b8 ((keyB key).getD i 0#8 ^^^ t))) = bs (tnL t (keyB key) (i + 1)) by rw [← tnL_set h1]; simp [bs, List.map_set]]
      refine g_nil ?_
      refine g_blk ?_
      (repeat refine g_seq ?_)
      refine g_region ?_
      refine g_pu rfl rfl rfl (pu_move rfl rfl) ?_
      refine g_pu rfl rfl rfl (pu_addI rfl rfl rfl (by omega)) ?_
      refine g_pu rfl rfl rfl (pu_assign rfl rfl) ?_
      refine g_nil ?_
      exact g_round (i + 1) (by omega) (by omega) ⟨rfl, rfl, rfl, trivial⟩ ⟨rfl, trivial⟩
    · (repeat refine g_seq ?_)
      refine g_region ?_
      refine g_pu rfl rfl rfl (pu_move rfl rfl) ?_
      first | refine g_pu rfl rfl rfl (pu_lss_t rfl rfl rfl (by omega)) ?_ | refine g_pu rfl rfl rfl (pu_lss_f rfl rfl rfl (by omega)) ?_ | refine g_pu rfl rfl rfl (pu_lss rfl rfl rfl) ?_
      refine g_nil ?_
      (repeat refine g_seq ?_)
      refine g_cond_f rfl (g_exit rfl ?_)
      have e : i = 64 := by omega
      subst e
      (repeat refine g_seq ?_)
      refine g_region ?_
      refine g_pu rfl rfl rfl (pu_move rfl rfl) ?_
      refine g_pu rfl rfl rfl (pu_assign rfl rfl) ?_
      refine g_nil ?_
      have hpp := padK_length key t
      refine g_own 8 (L := bs (padK key t)) (J := []) (c := 64) (s := 1) (by rw [List.append_nil]; rfl) (by simp [bs_length, hpp]) (by omega) ?_
      exact g_ret1 rfl rfl (fun w' hm => ⟨⟨some ⟨kb, 0, none⟩, 64⟩, trivial, rfl, hm.grows [8] ⟨rfl, trivial⟩ rfl⟩)
  · have hK : keyK key = key := by unfold keyK; rw [if_neg (by omega)]
    have hz : (bs (List.replicate 64 0#8)).take 0 ++ (bs (keyK key)).take (Nat.min n 64) ++ (bs (List.replicate 64 0#8)).drop (0 + Nat.min n 64) = bs (keyB key) := by
      have hl : n = (keyK key).length := by rw [hK, hkl]
      rw [hl]
      exact copyZ hkk
    (repeat refine g_seq ?_)
    refine g_region ?_
    refine g_pu rfl rfl rfl (pu_move rfl rfl) ?_
    first | refine g_pu rfl rfl rfl (pu_len rfl rfl) ?_ | refine g_pu rfl rfl rfl (pu_lenS rfl rfl) ?_
    first | refine g_pu rfl rfl rfl (pu_gtr_t rfl rfl rfl (by omega)) ?_ | refine g_pu rfl rfl rfl (pu_gtr_f rfl rfl rfl (by omega)) ?_ | refine g_pu rfl rfl rfl (pu_gtr rfl rfl rfl) ?_
    refine g_nil ?_
    (repeat refine g_seq ?_)
    refine g_cond_f rfl ?_
    (repeat refine g_seq ?_)
    refine g_region ?_
    refine g_pu rfl rfl rfl (pu_move rfl rfl) ?_
    refine g_pu rfl rfl rfl (pu_move rfl rfl) ?_
    refine g_copy 8 (L := bs (List.replicate 64 0#8)) (n := 64) (m := n) (bs (keyK key)) rfl rfl rfl rfl rfl rfl rfl (fun w' hm => by rw [hK]; exact (ha.m hm).rd) (by rw [bs_length, hK, hkl]) (by rw [bs_length]; simp) (oneCell_bs _) ?_
    rw [hz]
    refine g_nil ?_
    (repeat refine g_seq ?_)
    refine g_region ?_
    refine g_pu rfl rfl rfl (pu_assign rfl rfl) ?_
    refine g_nil ?_
    refine g_block (g_loop (σ := Nat) (fun i => [(1, b8 t), (5, .slice (some ⟨kb, 0, none⟩) 64 64), (7, .int .i64 (i : Int))]) (fun i => [(8, .pt kb (.cells (bs (tnL t (keyB key) i)).toArray 5 (0, 0)))]) (fun i => i ≤ 64) (fun i => 64 - i) 0 ⟨rfl, rfl, rfl, trivial⟩ ⟨by rw [tnL_zero]; rfl, trivial⟩ (by omega) ?_)
    intro i hi
    by_cases hlt : i < 64
    · (repeat refine g_seq ?_)
      refine g_region ?_
      refine g_pu rfl rfl rfl (pu_move rfl rfl) ?_
      first | refine g_pu rfl rfl rfl (pu_lss_t rfl rfl rfl (by omega)) ?_ | refine g_pu rfl rfl rfl (pu_lss_f rfl rfl rfl (by omega)) ?_ | refine g_pu rfl rfl rfl (pu_lss rfl rfl rfl) ?_
      refine g_nil ?_
      (repeat refine g_seq ?_)
      refine g_cond_t rfl (g_skip ?_)
      have h1 : (keyB key)[i]? = some ((keyB key).getD i 0#8) := getD_some (by omega)
      have hol := tnL_length t (keyB key) i
      (repeat refine g_seq ?_); refine g_block ?_
      (repeat refine g_seq ?_)
      refine g_region ?_
      refine g_pu rfl rfl rfl (pu_move rfl rfl) ?_
      refine g_pu rfl rfl rfl (pu_move rfl rfl) ?_
      refine g_pu rfl rfl rfl (pu_move rfl rfl) ?_
      refine g_pu rfl rfl rfl (pu_move rfl rfl) ?_
      refine g_pu rfl rfl rfl (pu_at1 i rfl rfl rfl rfl hlt) ?_
      refine g_pu rfl rfl rfl (pu_load 8 rfl rfl rfl (by have := bs_load (J := []) (tnL_get (t := t) h1); rwa [List.append_nil] at this)) ?_
      refine g_pu rfl rfl rfl (pu_move rfl rfl) ?_
      refine g_pu rfl rfl rfl (pu_xor8 rfl rfl rfl) ?_
      refine g_pu rfl rfl rfl (pu_at1 i rfl rfl rfl rfl hlt) ?_
      refine g_store 8 (v := b8 ((keyB key).getD i 0#8 ^^^ t)) rfl rfl rfl rfl rfl rfl rfl (by rw [bs_length]; omega) ?_
      rw [Nat.zero_add, show ((bs (tnL t (keyB key) i)).set i (b8 ((keyB key).getD i 0#8 ^^^ t))) = bs (tnL t (keyB key) (i + 1)) by rw [← tnL_set h1]; simp [bs, List.map_set]]
      refine g_nil ?_
      refine g_blk ?_
      (repeat refine g_seq ?_)
      refine g_region ?_
      refine g_pu rfl rfl rfl (pu_move rfl rfl) ?_
      refine g_pu rfl rfl rfl (pu_addI rfl rfl rfl (by omega)) ?_
      refine g_pu rfl rfl rfl (pu_assign rfl rfl) ?_
      refine g_nil ?_
      exact g_round (i + 1) (by omega) (by omega) ⟨rfl, rfl, rfl, trivial⟩ ⟨rfl, trivial⟩
    · (repeat refine g_seq ?_)
      refine g_region ?_
      refine g_pu rfl rfl rfl (pu_move rfl rfl) ?_
      first | refine g_pu rfl rfl rfl (pu_lss_t rfl rfl rfl (by omega)) ?_ | refine g_pu rfl rfl rfl (pu_lss_f rfl rfl rfl (by omega)) ?_ | refine g_pu rfl rfl rfl (pu_lss rfl rfl rfl) ?_
      refine g_nil ?_
      (repeat refine g_seq ?_)
      refine g_cond_f rfl (g_exit rfl ?_)
      have e : i = 64 := by omega
      subst e
      (repeat refine g_seq ?_)
      refine g_region ?_
      refine g_pu rfl rfl rfl (pu_move rfl rfl) ?_
      refine g_pu rfl rfl rfl (pu_assign rfl rfl) ?_
      refine g_nil ?_
      have hpp := padK_length key t
      refine g_own 8 (L := bs (padK key t)) (J := []) (c := 64) (s := 1) (by rw [List.append_nil]; rfl) (by simp [bs_length, hpp]) (by omega) ?_
      exact g_ret1 rfl rfl (fun w' hm => ⟨⟨some ⟨kb, 0, none⟩, 64⟩, trivial, rfl, hm.grows [8] ⟨rfl, trivial⟩ rfl⟩)

theorem Inside_b (w : World) {p q : Option Addr} {n m : Nat} (c d : Nat) {key b : List (BitVec 8)} (ha : By w p n key) (hb : By w q m b) (hnb : n ≤ 140737488355200) (hmb : m ≤ 140737488355136) :
    Spec Try.prog 52 #[.slice p n c, .slice q m d] w (σ := Unit) (fun _ => True) (fun _ => .agg (bs (hmacI key b)).toArray) Nob (fun _ => []) := by
  refine enter Try.func52 rfl rfl (Mem.start w) ?_
  have hpl := padK_length key 54#8
  have hhl := hmacI_length key b
  have hbl := hb.len
  (repeat refine g_seq ?_)
  refine g_region ?_
  refine g_lo [4] rfl rfl rfl rfl (lo_alloc rfl) (fun b4 hb4 => ?_)
  refine g_nil ?_
  (repeat refine g_seq ?_)
  refine g_region ?_
  refine g_pu rfl rfl rfl (pu_move rfl rfl) ?_
  refine g_call [6] rfl rfl rfl rfl rfl rfl (fun w' hm => RPadM_b w' c 54#8 (ha.m hm) hnb) (fun x6 _ => ?_)
  refine g_pu rfl rfl rfl (pu_move rfl rfl) ?_
  refine g_append1 6 (bs b) rfl rfl rfl rfl rfl rfl rfl rfl (by rw [bs_length, hpl]) (fun w' hm => (hb.m hm).rd) (by rw [bs_length, hbl]) (oneCell_bs _) (by omega) (by omega) (fun p1 c1 => ?_)
  rw [← bs_append]
  refine g_call [] rfl rfl rfl rfl rfl rfl (fun w' hm => RSum_b w' c1 (L := padK key 54#8 ++ b) ⟨Own.rd (hm.holds 6 _ rfl), by rw [List.length_append, hpl, hbl], by omega⟩ (by omega)) (fun _ _ => ?_)
  rw [show shaL (padK key 54#8 ++ b) = hmacI key b from rfl]
  refine g_storeL 4 (s := 32) (C := bs (hmacI key b)) rfl rfl rfl rfl rfl rfl (by rw [bs_length, hhl]) rfl (oneCell_bs _) ?_
  refine g_nil ?_
  exact g_retL 4 (L := bs (hmacI key b)) rfl (by rw [bs_length, hhl]) rfl rfl (fun w' hm => ⟨(), trivial, rfl, hm.grows [] trivial rfl⟩)

theorem RTag_b (w : World) {p q : Option Addr} {n m : Nat} (c d : Nat) {key b : List (BitVec 8)} (ha : By w p n key) (hb : By w q m b) (hnb : n ≤ 140737488355200) (hmb : m ≤ 140737488355136) :
    Spec Try.prog 38 #[.slice p n c, .slice q m d] w (σ := Unit) (fun _ => True) (fun _ => .agg (bs (hmacL key b)).toArray) Nob (fun _ => []) := by
  refine enter Try.func38 rfl rfl (Mem.start w) ?_
  have hpl := padK_length key 92#8
  have hhl := hmacI_length key b
  have hhl2 := hmacL_length key b
  (repeat refine g_seq ?_)
  refine g_region ?_
  refine g_lo [4] rfl rfl rfl rfl (lo_alloc rfl) (fun b4 hb4 => ?_)
  refine g_nil ?_
  (repeat refine g_seq ?_)
  refine g_region ?_
  refine g_pu rfl rfl rfl (pu_move rfl rfl) ?_
  refine g_pu rfl rfl rfl (pu_move rfl rfl) ?_
  refine g_call [] rfl rfl rfl rfl rfl rfl (fun w' hm => Inside_b w' c d (ha.m hm) (hb.m hm) hnb hmb) (fun _ _ => ?_)
  refine g_lo [5] rfl rfl rfl rfl (lo_alloc rfl) (fun b5 hb5 => ?_)
  refine g_storeL 5 (s := 32) (C := bs (hmacI key b)) rfl rfl rfl rfl rfl rfl (by rw [bs_length, hhl]) rfl (oneCell_bs _) ?_
  refine g_nil ?_
  (repeat refine g_seq ?_)
  refine g_any (1, [2]) ?_
  refine a_pu 0 rfl rfl rfl rfl (pu_move rfl rfl) rfl rfl (by kernel_rfl) ?_
  refine a_mv 2 rfl rfl rfl rfl (fun _ => pu_sliceA rfl rfl) rfl rfl rfl (by kernel_rfl) (by kernel_rfl) (by kernel_rfl) rfl ?_
  refine a_tail [1, 3, 4, 5] (by kernel_rfl) rfl rfl (by kernel_rfl) ?_
  refine g_call [10] rfl rfl rfl rfl rfl rfl (fun w' hm => RPadM_b w' c 92#8 (ha.m hm) hnb) (fun x10 _ => ?_)
  refine g_append1 10 (bs (hmacI key b)) rfl rfl rfl rfl rfl rfl rfl rfl (by rw [bs_length, hpl]) (fun w' hm => hm.rowA 5 rfl) (by rw [bs_length, hhl]) (oneCell_bs _) (by omega) (by omega) (fun p1 c1 => ?_)
  rw [← bs_append]
  refine g_call [] rfl rfl rfl rfl rfl rfl (fun w' hm => RSum_b w' c1 (L := padK key 92#8 ++ hmacI key b) ⟨Own.rd (hm.holds 10 _ rfl), by rw [List.length_append, hpl, hhl], by omega⟩ (by omega)) (fun _ _ => ?_)
  rw [show shaL (padK key 92#8 ++ hmacI key b) = hmacL key b from rfl]
  refine g_storeL 4 (s := 32) (C := bs (hmacL key b)) rfl rfl rfl rfl rfl rfl (by rw [bs_length, hhl2]) rfl (oneCell_bs _) ?_
  refine g_nil ?_
  exact g_retL 4 (L := bs (hmacL key b)) rfl (by rw [bs_length, hhl2]) rfl rfl (fun w' hm => ⟨(), trivial, rfl, hm.grows [] trivial rfl⟩)

end Go.Sx

/-
  HKDF's second step: the program's and the document's way come to the same bytes.
-/
namespace Go.Sx
open Go Go.Proofs

theorem Own.take {E : TypeId} {s c n : Nat} {p : Option Addr} {L : List Value} {w : World} (h : Own E s p c L w) : Own E s p c (L.take n) w := by
  rcases h with ⟨rfl, rfl, rfl⟩ | ⟨b, J, rfl, hb, hl, hc⟩
  · exact .inl ⟨rfl, by simp, rfl⟩
  · refine .inr ⟨b, L.drop n ++ J, rfl, by rw [← List.append_assoc, List.take_append_drop]; exact hb, ⟨by rw [List.length_take]; omega, by rw [← List.append_assoc, List.take_append_drop]; exact hl.2⟩, hc⟩
section
variable {P : Program} {fn : Func} {R : Ending → World → Prop} {N : Nat} {w0 : World} {D : Blocks} {e : List (Nat × Value)} {M : List (Nat × Ck)} {k : List It}
/-- Of an own slice the beginning. -/
theorem g_fst (t n : Nat) {E : TypeId} {s c : Nat} {p : Option Addr} {L : List Value} (ht : mget M t = some (.fact (At p) (Own E s p c L)))
    (h : G P fn R N w0 D e ((t, .fact (At p) (Own E s p c (L.take n))) :: M) k) : G P fn R N w0 D e M k :=
  g_recast t _ (.fact (At p) (Own E s p c (L.take n))) ht (fun _ hw => Own.take hw) Own.loc (fun _ hj => hj) h
end

def expT (key info : List (BitVec 8)) : Nat → List (BitVec 8)
  | 0 => []
  | k + 1 => hmacL key (expT key info k ++ info ++ [BitVec.ofInt 8 ((k + 1 : Nat) : Int)])
def expO (key info : List (BitVec 8)) : Nat → List (BitVec 8)
  | 0 => []
  | k + 1 => expO key info k ++ expT key info (k + 1)
def expL (key info : List (BitVec 8)) (n : Nat) : List (BitVec 8) := (expO key info ((n + 31) / 32)).take n
theorem expT_succ (key info : List (BitVec 8)) (k : Nat) : (expT key info (k + 1)).length = 32 := hmacL_length _ _
theorem expT_le (key info : List (BitVec 8)) : ∀ k, (expT key info k).length ≤ 32
  | 0 => Nat.zero_le _
  | k + 1 => by rw [expT_succ]; omega
theorem expO_length (key info : List (BitVec 8)) : ∀ k, (expO key info k).length = 32 * k
  | 0 => rfl
  | k + 1 => by rw [expO, List.length_append, expO_length, expT_succ]; omega
theorem expO_pre (key info : List (BitVec 8)) {k : Nat} : ∀ {K : Nat}, k ≤ K → (expO key info K).take (32 * k) = expO key info k
  | 0, h => by obtain rfl : k = 0 := by omega
               rfl
  | K + 1, h => by
    rcases Nat.lt_or_ge k (K + 1) with h1 | h1
    · rw [expO, List.take_append_of_le_length (by rw [expO_length]; omega)]
      exact expO_pre key info (by omega)
    · obtain rfl : k = K + 1 := by omega
      rw [List.take_of_length_le (by rw [expO_length]; omega)]
theorem expL_of {key info : List (BitVec 8)} {n k : Nat} (h : n ≤ 32 * k) : (expO key info k).take n = expL key info n := by
  unfold expL
  rw [← expO_pre key info (show (n + 31) / 32 ≤ k by omega), List.take_take]
  congr 1
  omega
theorem expL_length {key info : List (BitVec 8)} (n : Nat) : (expL key info n).length = n := by
  unfold expL
  rw [List.length_take, expO_length]; omega
theorem Expand_b (w : World) {p q : Option Addr} {n m : Nat} (c d : Nat) (z : Nat) {key : List (BitVec 8)} {L : List Value} {ls : List (List (BitVec 8))} (ha : By w p n key) (hb : ByL w q m L ls) (hmd : m ≤ d) (hz : z ≤ 8160) (hnb : n ≤ 140737488355200) (hlen : ls.flatten.length ≤ 140737488355200) :
    Spec Try.prog 36 #[.slice p n c, .int .i64 (z : Int), .slice q m d] w (σ := Ow) (fun _ => True) (fun x => .tuple #[x.sl z, .int .i64 0]) Nob (fun x => [x.ck 5 1 (bs (expL key ls.flatten z))]) := by
  refine enter Try.func36 rfl rfl (Mem.start w) ?_
  (repeat refine g_seq ?_)
  refine g_region ?_
  refine g_pu rfl rfl rfl (pu_assign rfl rfl) ?_
  refine g_pu rfl rfl rfl (pu_assign rfl rfl) ?_
  refine g_nil ?_
  (repeat refine g_seq ?_)
  refine g_region ?_
  refine g_pu rfl rfl rfl (pu_move rfl rfl) ?_
  first | refine g_pu rfl rfl rfl (pu_lss_t rfl rfl rfl (by omega)) ?_ | refine g_pu rfl rfl rfl (pu_lss_f rfl rfl rfl (by omega)) ?_ | refine g_pu rfl rfl rfl (pu_lss rfl rfl rfl) ?_
  refine g_pu rfl rfl rfl (pu_move rfl rfl) ?_
  first | refine g_pass rfl rfl rfl ?_ | refine g_pu rfl rfl rfl (pu_move rfl rfl) ?_
  first | refine g_pass rfl rfl rfl ?_ | refine g_pu rfl rfl rfl (pu_gtr_t rfl rfl rfl (by omega)) ?_ | refine g_pu rfl rfl rfl (pu_gtr_f rfl rfl rfl (by omega)) ?_ | refine g_pu rfl rfl rfl (pu_gtr rfl rfl rfl) ?_
  first | refine g_pu rfl rfl rfl (pu_pick_t rfl rfl rfl) ?_ | refine g_pu rfl rfl rfl (pu_pick_f rfl rfl rfl) ?_
  refine g_nil ?_
  (repeat refine g_seq ?_)
  refine g_cond_f rfl (g_skip ?_)
  (repeat refine g_seq ?_)
  refine g_region ?_
  refine g_pu rfl rfl rfl (pu_move rfl rfl) ?_
  refine g_call [20] rfl rfl rfl rfl rfl rfl (fun w' hm => Join_b w' d (hb.m hm) hmd (by omega)) (fun x20 _ => ?_)
  refine g_pu rfl rfl rfl (pu_assign rfl rfl) ?_
  refine g_nil ?_
  (repeat refine g_seq ?_)
  refine g_region ?_
  refine g_pu rfl rfl rfl (pu_assign rfl rfl) ?_
  refine g_pu rfl rfl rfl (pu_assign rfl rfl) ?_
  refine g_nil ?_
  (repeat refine g_seq ?_)
  refine g_region ?_
  refine g_pu rfl rfl rfl (pu_assign rfl rfl) ?_
  refine g_nil ?_
  generalize ls.flatten = W at hlen
  refine g_nilOwn 80 43 1 rfl ?_
  refine g_nilOwn 90 5 1 rfl ?_
  refine g_block (g_loop3 (fun (k : Nat) (y x : Ow) => [(0, .slice p n c), (1, .int .i64 (z : Int)), (8, x20.sl W.length), (9, x.sl (32 * k)), (10, y.sl (expT key W k).length), (11, .int .i64 ((k + 1 : Nat) : Int))]) (fun k y x => [(20, x20.ck 5 1 (bs W)), (80, y.ck 43 1 (bs (expT key W k))), (90, x.ck 5 1 (bs (expO key W k)))]) (fun k _ _ => 32 * k < z + 32) (fun k _ _ => z + 32 - 32 * k) 0 ⟨none, 0⟩ ⟨none, 0⟩ ⟨rfl, rfl, rfl, rfl, rfl, rfl, trivial⟩ ⟨rfl, rfl, rfl, trivial⟩ (by omega) ?_)
  intro k y x hk
  have hol := expO_length key W k
  have htl := expT_le key W k
  by_cases hlt : 32 * k < z
  · (repeat refine g_seq ?_)
    refine g_region ?_
    refine g_pu rfl rfl rfl (pu_move rfl rfl) ?_
    first | refine g_pu rfl rfl rfl (pu_len rfl rfl) ?_ | refine g_pu rfl rfl rfl (pu_lenS rfl rfl) ?_
    refine g_pu rfl rfl rfl (pu_move rfl rfl) ?_
    refine g_pu rfl rfl rfl (pu_lss_t rfl rfl rfl (by omega)) ?_
    refine g_nil ?_
    (repeat refine g_seq ?_)
    refine g_cond_t rfl (g_skip ?_)
    have hts := expT_succ key W k
    have hT : hmacL key [expT key W k, W, [BitVec.ofInt 8 ((k + 1 : Nat) : Int)]].flatten = expT key W (k + 1) := by
      rw [show [expT key W k, W, [BitVec.ofInt 8 ((k + 1 : Nat) : Int)]].flatten = expT key W k ++ W ++ [BitVec.ofInt 8 ((k + 1 : Nat) : Int)] by simp]
      rfl
    have hO : expO key W (k + 1) = expO key W k ++ expT key W (k + 1) := rfl
    (repeat refine g_seq ?_); refine g_block ?_
    (repeat refine g_seq ?_)
    refine g_region ?_
    refine g_pu rfl rfl rfl (pu_move rfl rfl) ?_
    refine g_pu rfl rfl rfl (pu_move rfl rfl) ?_
    refine g_pu rfl rfl rfl (pu_move rfl rfl) ?_
    refine g_pu rfl rfl rfl (pu_move rfl rfl) ?_
    refine g_pu rfl rfl rfl (pu_convI_8 rfl rfl) ?_
    refine g_lo [32] rfl rfl rfl rfl (lo_buildSlice rfl rfl (by decide) (by decide) rfl rfl) (fun q32 hq32 => ?_)
    refine g_lo [33] rfl rfl rfl rfl (lo_buildSlice rfl rfl (by decide) (by decide) rfl rfl) (fun b33 hb33 => ?_)
    refine g_call [] rfl rfl rfl rfl rfl rfl (fun w' hm => Tag_b w' c _ (LL := [y.sl (expT key W k).length, x20.sl W.length, .slice (some ⟨q32, 0, none⟩) 1 1]) (ls := [expT key W k, W, [BitVec.ofInt 8 ((k + 1 : Nat) : Int)]]) (ha.m hm) ⟨hm.rowA 33 rfl, rfl, All2.cons (IsB.own 80 rfl hm rfl (by omega)) (All2.cons (IsB.own 20 rfl hm rfl (by omega)) (All2.cons (IsB.full (l := [BitVec.ofInt 8 ((k + 1 : Nat) : Int)]) 32 rfl hm rfl (by omega)) All2.nil)), by omega⟩ hnb (fun l hl => by simp only [List.mem_cons, List.not_mem_nil, or_false] at hl; rcases hl with rfl | rfl | rfl <;> first | omega | simp) (by simp; omega)) (fun _ _ => ?_)
    rw [hT]
    refine g_lo [12] rfl rfl rfl rfl (lo_alloc rfl) (fun b12 hb12 => ?_)
    refine g_storeL 12 (s := 32) (C := bs (expT key W (k + 1))) rfl rfl rfl rfl rfl rfl (by rw [bs_length, hts]) rfl (oneCell_bs _) ?_
    refine g_nil ?_
    (repeat refine g_seq ?_)
    refine g_region ?_
    refine g_pu rfl rfl rfl (pu_sliceA rfl rfl) ?_
    refine g_pu rfl rfl rfl (pu_assign rfl rfl) ?_
    refine g_nil ?_
    (repeat refine g_seq ?_)
    refine g_region ?_
    refine g_pu rfl rfl rfl (pu_move rfl rfl) ?_
    refine g_pu rfl rfl rfl (pu_move rfl rfl) ?_
    refine g_append1 90 (bs (expT key W (k + 1))) rfl rfl rfl rfl rfl rfl rfl rfl (by rw [bs_length, hol]) (fun w' hm => hm.rowA 12 rfl) (by rw [bs_length, hts]) (oneCell_bs _) (by omega) (by omega) (fun p' c' => ?_)
    rw [← bs_append, ← hO]
    refine g_pu rfl rfl rfl (pu_assign rfl rfl) ?_
    refine g_nil ?_
    refine g_own 12 (L := bs (expT key W (k + 1))) (J := []) (c := 32) (s := 1) (by rw [List.append_nil]; rfl) (by simp [bs_length, hts]) (by omega) ?_
    refine g_retag 12 80 _ rfl rfl ?_
    refine g_blk ?_
    (repeat refine g_seq ?_)
    refine g_region ?_
    refine g_pu rfl rfl rfl (pu_move rfl rfl) ?_
    refine g_pu rfl rfl rfl (pu_addI rfl rfl rfl (by omega)) ?_
    refine g_pu rfl rfl rfl (pu_assign rfl rfl) ?_
    refine g_nil ?_
    exact g_round3 (k + 1) (⟨some ⟨b12, 0, none⟩, 32⟩ : Ow) (⟨p', c'⟩ : Ow) (by omega) (by omega) ⟨rfl, rfl, rfl, by rw [Nat.mul_add]; rfl, by rw [hts]; rfl, rfl, trivial⟩ ⟨rfl, rfl, rfl, trivial⟩
  · (repeat refine g_seq ?_)
    refine g_region ?_
    refine g_pu rfl rfl rfl (pu_move rfl rfl) ?_
    first | refine g_pu rfl rfl rfl (pu_len rfl rfl) ?_ | refine g_pu rfl rfl rfl (pu_lenS rfl rfl) ?_
    refine g_pu rfl rfl rfl (pu_move rfl rfl) ?_
    refine g_pu rfl rfl rfl (pu_lss_f rfl rfl rfl (by omega)) ?_
    refine g_nil ?_
    (repeat refine g_seq ?_)
    refine g_cond_f rfl (g_exit rfl ?_)
    refine g_know (φ := 32 * k ≤ x.c) (fun w' hm => by have := Own.le (hm.holds 90 _ rfl); rwa [bs_length, hol] at this) (fun hxc => ?_)
    (repeat refine g_seq ?_)
    refine g_region ?_
    refine g_pu rfl rfl rfl (pu_move rfl rfl) ?_
    refine g_pu rfl rfl rfl (pu_move rfl rfl) ?_
    refine g_pu rfl rfl rfl (pu_slice_h z rfl rfl rfl rfl (by omega)) ?_
    refine g_pu rfl rfl rfl (pu_assign rfl rfl) ?_
    refine g_pu rfl rfl rfl (pu_assign rfl rfl) ?_
    refine g_nil ?_
    refine g_fst 90 z rfl ?_
    rw [bs_take, expL_of (show z ≤ 32 * k by omega)]
    exact g_ret2 rfl rfl rfl (fun w' hm => ⟨x, trivial, rfl, hm.grows [90] ⟨rfl, trivial⟩ rfl⟩)

theorem RExpand_b (w : World) {p q : Option Addr} {n m : Nat} (c d : Nat) (z : Nat) {key W : List (BitVec 8)} (ha : By w p n key) (hb : By w q m W) (hz : z ≤ 8160) (hnb : n ≤ 140737488355200) (hmb : m ≤ 140737488355072) :
    Spec Try.prog 39 #[.slice p n c, .int .i64 (z : Int), .slice q m d] w (σ := Ow) (fun _ => True) (fun x => .tuple #[x.sl z, .int .i64 0]) Nob (fun x => [x.ck 5 1 (bs (expL key W z))]) := by
  refine enter Try.func39 rfl rfl (Mem.start w) ?_
  have hbl := hb.len
  (repeat refine g_seq ?_)
  refine g_region ?_
  refine g_pu rfl rfl rfl (pu_assign rfl rfl) ?_
  refine g_pu rfl rfl rfl (pu_assign rfl rfl) ?_
  refine g_nil ?_
  (repeat refine g_seq ?_)
  refine g_region ?_
  refine g_pu rfl rfl rfl (pu_move rfl rfl) ?_
  first | refine g_pu rfl rfl rfl (pu_lss_t rfl rfl rfl (by omega)) ?_ | refine g_pu rfl rfl rfl (pu_lss_f rfl rfl rfl (by omega)) ?_ | refine g_pu rfl rfl rfl (pu_lss rfl rfl rfl) ?_
  refine g_pu rfl rfl rfl (pu_move rfl rfl) ?_
  first | refine g_pass rfl rfl rfl ?_ | refine g_pu rfl rfl rfl (pu_move rfl rfl) ?_
  first | refine g_pass rfl rfl rfl ?_ | refine g_pu rfl rfl rfl (pu_gtr_t rfl rfl rfl (by omega)) ?_ | refine g_pu rfl rfl rfl (pu_gtr_f rfl rfl rfl (by omega)) ?_ | refine g_pu rfl rfl rfl (pu_gtr rfl rfl rfl) ?_
  first | refine g_pu rfl rfl rfl (pu_pick_t rfl rfl rfl) ?_ | refine g_pu rfl rfl rfl (pu_pick_f rfl rfl rfl) ?_
  refine g_nil ?_
  (repeat refine g_seq ?_)
  refine g_cond_f rfl (g_skip ?_)
  (repeat refine g_seq ?_)
  refine g_region ?_
  refine g_pu rfl rfl rfl (pu_assign rfl rfl) ?_
  refine g_nil ?_
  (repeat refine g_seq ?_)
  refine g_region ?_
  refine g_pu rfl rfl rfl (pu_assign rfl rfl) ?_
  refine g_nil ?_
  (repeat refine g_seq ?_)
  refine g_region ?_
  refine g_pu rfl rfl rfl (pu_assign rfl rfl) ?_
  refine g_nil ?_
  refine g_nilOwn 80 5 1 rfl ?_
  refine g_nilOwn 90 5 1 rfl ?_
  refine g_block (g_loop3 (fun (k : Nat) (y x : Ow) => [(0, .slice p n c), (1, .int .i64 (z : Int)), (2, .slice q m d), (8, x.sl (32 * k)), (9, y.sl (expT key W k).length), (10, .int .i64 ((k + 1 : Nat) : Int))]) (fun k y x => [(80, y.ck 5 1 (bs (expT key W k))), (90, x.ck 5 1 (bs (expO key W k)))]) (fun k _ _ => 32 * k < z + 32) (fun k _ _ => z + 32 - 32 * k) 0 ⟨none, 0⟩ ⟨none, 0⟩ ⟨rfl, rfl, rfl, rfl, rfl, rfl, trivial⟩ ⟨rfl, rfl, trivial⟩ (by omega) ?_)
  intro k y x hk
  have hol := expO_length key W k
  have htl := expT_le key W k
  by_cases hlt : 32 * k < z
  · (repeat refine g_seq ?_)
    refine g_region ?_
    refine g_pu rfl rfl rfl (pu_move rfl rfl) ?_
    first | refine g_pu rfl rfl rfl (pu_len rfl rfl) ?_ | refine g_pu rfl rfl rfl (pu_lenS rfl rfl) ?_
    refine g_pu rfl rfl rfl (pu_move rfl rfl) ?_
    refine g_pu rfl rfl rfl (pu_lss_t rfl rfl rfl (by omega)) ?_
    refine g_nil ?_
    (repeat refine g_seq ?_)
    refine g_cond_t rfl (g_skip ?_)
    have hts := expT_succ key W k
    have hT : hmacL key (expT key W k ++ W ++ [BitVec.ofInt 8 ((k + 1 : Nat) : Int)]) = expT key W (k + 1) := rfl
    have hO : expO key W (k + 1) = expO key W k ++ expT key W (k + 1) := rfl
    generalize hB : BitVec.ofInt 8 ((k + 1 : Nat) : Int) = B at hT
    have hal : (expT key W k ++ W ++ [B]).length = (expT key W k).length + m + 1 := by simp [hbl]; omega
    (repeat refine g_seq ?_); refine g_block ?_
    (repeat refine g_seq ?_)
    refine g_region ?_
    refine g_pu rfl rfl rfl (pu_move rfl rfl) ?_
    refine g_call [26] rfl rfl rfl rfl rfl rfl (fun w' hm => Copy_b w' _ (By.ow 80 rfl hm rfl (by omega))) (fun x26 _ => ?_)
    refine g_pu rfl rfl rfl (pu_move rfl rfl) ?_
    refine g_append1 26 (bs W) rfl rfl rfl rfl rfl rfl rfl rfl (by rw [bs_length]) (fun w' hm => (hb.m hm).rd) (by rw [bs_length, hbl]) (oneCell_bs _) (by omega) (by omega) (fun p1 c1 => ?_)
    refine g_pu rfl rfl rfl (pu_move rfl rfl) ?_
    refine g_pu rfl rfl rfl (pu_convI_8 rfl rfl) ?_
    refine g_lo [31] rfl rfl rfl rfl (lo_buildSlice rfl rfl (by decide) (by decide) rfl rfl) (fun b31 hb31 => ?_)
    refine g_append1 26 (bs [B]) rfl rfl rfl rfl rfl rfl rfl rfl (by rw [List.length_append, bs_length, bs_length, hbl]) (fun w' hm => by rw [← hB]; exact hm.rowA 31 rfl) rfl (oneCell_bs _) (by omega) (by omega) (fun p2 c2 => ?_)
    rw [← bs_append, ← bs_append]
    refine g_pu rfl rfl rfl (pu_assign rfl rfl) ?_
    refine g_nil ?_
    (repeat refine g_seq ?_)
    refine g_region ?_
    refine g_pu rfl rfl rfl (pu_move rfl rfl) ?_
    refine g_pu rfl rfl rfl (pu_move rfl rfl) ?_
    refine g_call [] rfl rfl rfl rfl rfl rfl (fun w' hm => RTag_b w' c _ (b := expT key W k ++ W ++ [B]) (ha.m hm) (By.own 26 rfl hm hal (by omega)) hnb (by omega)) (fun _ _ => ?_)
    rw [hT]
    refine g_lo [12] rfl rfl rfl rfl (lo_alloc rfl) (fun b12 hb12 => ?_)
    refine g_storeL 12 (s := 32) (C := bs (expT key W (k + 1))) rfl rfl rfl rfl rfl rfl (by rw [bs_length, hts]) rfl (oneCell_bs _) ?_
    refine g_nil ?_
    (repeat refine g_seq ?_)
    refine g_region ?_
    refine g_pu rfl rfl rfl (pu_sliceA rfl rfl) ?_
    refine g_call [37] rfl rfl rfl rfl rfl rfl (fun w' hm => Copy_b w' _ (l := expT key W (k + 1)) (By.full 12 rfl hm hts (by omega))) (fun x37 _ => ?_)
    refine g_pu rfl rfl rfl (pu_assign rfl rfl) ?_
    refine g_nil ?_
    (repeat refine g_seq ?_)
    refine g_region ?_
    refine g_pu rfl rfl rfl (pu_move rfl rfl) ?_
    refine g_pu rfl rfl rfl (pu_move rfl rfl) ?_
    refine g_append1 90 (bs (expT key W (k + 1))) rfl rfl rfl rfl rfl rfl rfl rfl (by rw [bs_length, hol]) (fun w' hm => Ow.rd (t := 37) rfl hm) (by rw [bs_length, hts]) (oneCell_bs _) (by omega) (by omega) (fun p' c' => ?_)
    rw [← bs_append, ← hO]
    refine g_pu rfl rfl rfl (pu_assign rfl rfl) ?_
    refine g_nil ?_
    refine g_retag 37 80 _ rfl rfl ?_
    refine g_blk ?_
    (repeat refine g_seq ?_)
    refine g_region ?_
    refine g_pu rfl rfl rfl (pu_move rfl rfl) ?_
    refine g_pu rfl rfl rfl (pu_addI rfl rfl rfl (by omega)) ?_
    refine g_pu rfl rfl rfl (pu_assign rfl rfl) ?_
    refine g_nil ?_
    exact g_round3 (k + 1) x37 (⟨p', c'⟩ : Ow) (by omega) (by omega) ⟨rfl, rfl, rfl, by rw [Nat.mul_add]; rfl, by rw [hts]; rfl, rfl, trivial⟩ ⟨rfl, rfl, trivial⟩
  · (repeat refine g_seq ?_)
    refine g_region ?_
    refine g_pu rfl rfl rfl (pu_move rfl rfl) ?_
    first | refine g_pu rfl rfl rfl (pu_len rfl rfl) ?_ | refine g_pu rfl rfl rfl (pu_lenS rfl rfl) ?_
    refine g_pu rfl rfl rfl (pu_move rfl rfl) ?_
    refine g_pu rfl rfl rfl (pu_lss_f rfl rfl rfl (by omega)) ?_
    refine g_nil ?_
    (repeat refine g_seq ?_)
    refine g_cond_f rfl (g_exit rfl ?_)
    refine g_know (φ := 32 * k ≤ x.c) (fun w' hm => by have := Own.le (hm.holds 90 _ rfl); rwa [bs_length, hol] at this) (fun hxc => ?_)
    have hel := expL_length (key := key) (info := W) z
    (repeat refine g_seq ?_)
    refine g_region ?_
    refine g_pu rfl rfl rfl (pu_move rfl rfl) ?_
    refine g_pu rfl rfl rfl (pu_move rfl rfl) ?_
    refine g_pu rfl rfl rfl (pu_slice_h z rfl rfl rfl rfl (by omega)) ?_
    refine g_fst 90 z rfl ?_
    rw [bs_take, expL_of (show z ≤ 32 * k by omega)]
    refine g_call [44] rfl rfl rfl rfl rfl rfl (fun w' hm => Copy_b w' _ (l := expL key W z) (By.own 90 rfl hm hel (by omega))) (fun x44 _ => ?_)
    refine g_pu rfl rfl rfl (pu_assign rfl rfl) ?_
    refine g_pu rfl rfl rfl (pu_assign rfl rfl) ?_
    refine g_nil ?_
    exact g_ret2 rfl rfl rfl (fun w' hm => ⟨x44, trivial, rfl, hm.grows [44] ⟨rfl, trivial⟩ rfl⟩)
end Go.Sx

/-
  The keys of labels: the program's and the document's way come to the same.
-/
namespace Go.Sx
open Go Go.Proofs

end Go.Sx

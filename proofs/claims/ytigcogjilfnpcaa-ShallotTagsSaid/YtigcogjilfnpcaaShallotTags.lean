import Derived.Test.YtigcogjilfnpcaaTA
import Derived.Test.YtigcogjilfnpcaaGM
import Derived.Test.YtigcogjilfnpcaaGH
set_option linter.unusedVariables false
set_option linter.unusedSimpArgs false
/-
  ShallotTags: what is sealed by a stream and tagged comes back as it was, and a turned bit is told. Condition: the secret is at most 2^47 - 4352 bytes.
-/
namespace Go.Sx
open Go Go.Proofs

/-- A piece of a known row. -/
theorem By.subT (t : Nat) {w0 w : World} {D : Blocks} {M : List (Nat × Ck)} {b : Nat} {E : TypeId} {fz : Nat × Nat} {l x : List (BitVec 8)} {J : List Value} (o n : Nat) (hM : mget M t = some (.pt b (.cells (bs l ++ J).toArray E fz))) (hm : Mem w0 D M w) (hx : (l.drop o).take n = x) (hl : o + n ≤ l.length) (hn : n ≤ 140737488355328) : By w (some ⟨b, o, none⟩) n x := by
  refine ⟨RdV.pt (hm.holds t _ hM) (fun i v hv => ?_), by rw [← hx, List.length_take, List.length_drop]; omega, hn⟩
  have hi : i < n := by
    have h1 := (List.getElem?_eq_some_iff.1 hv).1
    rw [bs_length, ← hx, List.length_take] at h1
    omega
  rw [← hx, ← bs_take, ← bs_drop, List.getElem?_take, if_pos hi, List.getElem?_drop] at hv
  rw [List.getElem?_toArray, List.getElem?_append_left (by rw [bs_length]; omega)]
  exact hv
theorem By.takeT {w : World} {p : Option Addr} {n k : Nat} {l : List (BitVec 8)} (h : By w p n l) (hk : k ≤ n) : By w p k (l.take k) := by
  have h1 := h.len
  have h2 := h.big
  exact ⟨by rw [← bs_take]; exact h.rd.fst, by rw [List.length_take]; omega, by omega⟩
theorem flatG {l : List (BitVec 8)} : [l].flatten = l := by simp
/-- What is turned in two parts is turned back. -/
theorem halves {key l : List (BitVec 8)} {n h : Nat} (hl : l.length = n) (hh : h ≤ n) :
    xorL ((xorL l (streamL key 0 n)).take h) (streamL key 0 h) = l.take h ∧ xorL ((xorL l (streamL key 0 n)).drop h) (streamL key h (n - h)) = l.drop h := by
  have e1 : (streamL key 0 n).take h = streamL key 0 h := by
    have := streamL_cut (key := key) (t := 0) (r := 0) (n := h) (N := n) (by omega)
    rwa [List.drop_zero] at this
  have e2 : (streamL key 0 n).drop h = streamL key h (n - h) := by
    have := streamL_cut (key := key) (t := 0) (r := h) (n := n - h) (N := n) (by omega)
    rwa [List.take_of_length_le (by rw [List.length_drop, streamL_length]; omega), Nat.zero_add] at this
  constructor
  · have e3 : (xorL l (streamL key 0 n)).take h = xorL (l.take h) (streamL key 0 h) := by
      unfold xorL
      rw [List.take_zipWith, e1]
    rw [e3, xorL_back (by rw [streamL_length, List.length_take]; omega)]
  · have e3 : (xorL l (streamL key 0 n)).drop h = xorL (l.drop h) (streamL key h (n - h)) := by
      unfold xorL
      rw [List.drop_zipWith, e2]
    rw [e3, xorL_back (by rw [streamL_length, List.length_drop]; omega)]
def laA : ByteArray := ⟨#[97]⟩
def laB : ByteArray := ⟨#[98]⟩

theorem ShallotTags_spec (w : World) {p q : Option Addr} {n m : Nat} (c d : Nat) (bit : Int) {secret msg : List (BitVec 8)} (ha : By w p n secret) (hb : By w q m msg) (hnb : n ≤ 140737488355072) (hmd : m ≤ d) :
    Spec Try.prog 4 #[.slice p n c, .slice q m d, .int .i64 bit] w (σ := Unit) (fun _ => True) (fun _ => .bool true) Nob (fun _ => []) := by
  refine enter Try.func4 rfl rfl (Mem.start w) ?_
  have hd0 : ((drvs secret [laA, laB]).drop 0).take 32 = drvL secret (bytesOf laA) := drvs_get (ss := [laA, laB]) (i := 0) rfl
  have hd1 : ((drvs secret [laA, laB]).drop 32).take 32 = drvL secret (bytesOf laB) := drvs_get (ss := [laA, laB]) (i := 1) rfl
  have hdl : (drvs secret [laA, laB]).length = 64 := drvs_length secret [laA, laB]
  have hk0 := drvL_length secret (bytesOf laA)
  have hk1 := drvL_length secret (bytesOf laB)
  (repeat refine g_seq ?_)
  refine g_region ?_
  refine g_pu rfl rfl rfl (pu_assign rfl rfl) ?_
  refine g_nil ?_
  (repeat refine g_seq ?_)
  refine g_region ?_
  refine g_pu rfl rfl rfl (pu_move rfl rfl) ?_
  refine g_lo [22] rfl rfl rfl rfl (lo_buildSlice rfl rfl (by decide) (by decide) rfl rfl) (fun b22 hb22 => ?_)
  refine g_call [23] rfl rfl rfl rfl rfl rfl (fun w' hm => Derive_b w' c 2 (ss := [laA, laB]) (ha.m hm) (hm.rowA 22 (L := [laA, laB].map Value.string) rfl) rfl hnb (by omega) (fun s hs => by simp only [List.mem_cons, List.not_mem_nil, or_false] at hs; rcases hs with rfl | rfl <;> decide)) (fun x23 _ => ?_)
  refine g_pu rfl rfl rfl (pu_assign rfl rfl) ?_
  refine g_nil ?_
  generalize drvs secret [laA, laB] = K at hd0 hd1 hdl
  generalize drvL secret (bytesOf laA) = k0 at hd0 hk0
  generalize drvL secret (bytesOf laB) = k1 at hd1 hk1
  (repeat refine g_seq ?_)
  refine g_region ?_
  refine g_pu rfl rfl rfl (pu_move rfl rfl) ?_
  first | refine g_pu rfl rfl rfl (pu_len rfl rfl) ?_ | refine g_pu rfl rfl rfl (pu_lenS rfl rfl) ?_
  first | refine g_pu rfl rfl rfl (pu_neq_t rfl rfl rfl (by omega)) ?_ | refine g_pu rfl rfl rfl (pu_neq_f rfl rfl rfl (by omega)) ?_ | refine g_pu rfl rfl rfl (pu_neq rfl rfl rfl) ?_
  refine g_pu rfl rfl rfl (pu_move rfl rfl) ?_
  first | (refine g_pass rfl rfl rfl ?_) | (refine g_lo [28] rfl rfl rfl rfl (lo_buildSlice rfl rfl (by decide) (by decide) rfl rfl) (fun b28 hb28 => ?_))
  refine g_call [] rfl rfl rfl rfl rfl rfl (fun w' hm => MCheck_b w' 0 0 1 (key := []) (tg := [1#8]) (LL := []) (ls := []) (By.nil w' none) (By.full 28 rfl hm rfl (by omega)) ⟨RdV.nil _ _, rfl, All2.nil, by omega⟩ (by omega) (fun l hl => by simp at hl) (by simp)) (fun _ _ => ?_)
  rw [decide_eq_false (fun e => by have h := congrArg List.length e; rw [List.length_take, hmacL_length] at h; exact absurd h (by decide))]
  first | refine g_pu rfl rfl rfl (pu_pick_t rfl rfl rfl) ?_ | refine g_pu rfl rfl rfl (pu_pick_f rfl rfl rfl) ?_
  refine g_nil ?_
  (repeat refine g_seq ?_)
  refine g_cond_f rfl (g_skip ?_)
  obtain ⟨xp, xc⟩ := x23
  (repeat refine g_seq ?_)
  refine g_row 23 rfl (by rw [bs_length, hdl]; omega) (fun bk Jk hp hJk hcapk => ?_)
  simp only at hp
  subst hp
  (repeat refine g_seq ?_)
  refine g_region ?_
  refine g_pu rfl rfl rfl (pu_move rfl rfl) ?_
  first | refine g_pu rfl rfl rfl (pu_len rfl rfl) ?_ | refine g_pu rfl rfl rfl (pu_lenS rfl rfl) ?_
  refine g_pu rfl rfl rfl (pu_gtr rfl rfl rfl) ?_
  refine g_nil ?_
  refine g_join (σ := Nat × List (BitVec 8)) (fun x => [(1, .slice q x.1 d), (2, .int .i64 bit), (7, .slice (some ⟨bk, 0, none⟩) 2 xc)]) (fun _ => [(23, .pt bk (.cells (bs K ++ Jk).toArray 24 (0, 0)))]) (fun x => By w q x.1 x.2 ∧ x.1 ≤ 2000) ?_ (fun x hx => ?_)
  · by_cases h2 : m > 2000
    · rw [decide_eq_true (show (m : Int) > 2000 by omega)]
      (repeat refine g_seq ?_)
      refine g_cond_t rfl ?_
      (repeat refine g_seq ?_)
      refine g_region ?_
      refine g_pu rfl rfl rfl (pu_move rfl rfl) ?_
      refine g_pu rfl rfl rfl (pu_slice_h 2000 rfl rfl rfl rfl (by omega)) ?_
      refine g_pu rfl rfl rfl (pu_assign rfl rfl) ?_
      refine g_nil ?_
      exact g_meet (2000, msg.take 2000) ⟨hb.takeT (by omega), by show 2000 ≤ 2000; omega⟩ ⟨rfl, rfl, rfl, trivial⟩ ⟨rfl, trivial⟩
    · rw [decide_eq_false (show ¬ (m : Int) > 2000 by omega)]
      (repeat refine g_seq ?_)
      refine g_cond_f rfl (g_skip ?_)
      exact g_meet (m, msg) ⟨hb, by show m ≤ 2000; omega⟩ ⟨rfl, rfl, rfl, trivial⟩ ⟨rfl, trivial⟩
  obtain ⟨n1, l⟩ := x
  obtain ⟨hl, h2000⟩ := hx
  dsimp only at hl h2000 ⊢
  have hll := hl.len
  have hE : turnE k0 l.length = 0 := by unfold turnE; rw [if_neg (by omega), if_neg (by omega)]
  have hL0 : turnL k0 l = xorL l (streamL k0 0 n1) := by unfold turnL; rw [if_pos hE, hll]
  have hSl : (xorL l (streamL k0 0 n1)).length = n1 := by rw [xorL_length (by rw [streamL_length, hll]), hll]
  have hhalf := fun (h : Nat) (hh : h ≤ n1) => halves (key := k0) hll hh
  (repeat refine g_seq ?_)
  refine g_region ?_
  refine g_pu rfl rfl rfl (pu_move rfl rfl) ?_
  refine g_pu rfl rfl rfl (pu_at 0 (s := 32) rfl rfl rfl rfl (by omega)) ?_
  refine g_pu rfl rfl rfl (pu_sliceA rfl rfl) ?_
  refine g_pu rfl rfl rfl (pu_move rfl rfl) ?_
  refine g_lo [41] rfl rfl rfl rfl (lo_buildSlice rfl rfl (by decide) (by decide) rfl rfl) (fun b41 hb41 => ?_)
  refine g_call [42] rfl rfl rfl rfl rfl rfl (fun w' hm => Turn_b w' 32 1 (key := k0) (L := [.slice q n1 d]) (ls := [l]) (By.subT 23 0 32 rfl hm hd0 (by omega) (by omega)) ⟨hm.rowA 41 rfl, rfl, All2.cons ⟨_, _, _, rfl, hl.m hm, fun _ _ => trivial⟩ All2.nil, by omega⟩ (by omega) (by rw [flatG]; omega)) (fun x42 _ => ?_)
  rw [flatG, hE, hL0, hSl]
  refine g_pu rfl rfl rfl (pu_move rfl rfl) ?_
  refine g_pu rfl rfl rfl (pu_extract rfl rfl rfl) ?_
  refine g_pu rfl rfl rfl (pu_extract rfl rfl rfl) ?_
  refine g_pu rfl rfl rfl (pu_assign rfl rfl) ?_
  refine g_pu rfl rfl rfl (pu_assign rfl rfl) ?_
  refine g_nil ?_
  generalize xorL l (streamL k0 0 n1) = S at hSl hhalf
  (repeat refine g_seq ?_)
  refine g_region ?_
  refine g_pu rfl rfl rfl (pu_move rfl rfl) ?_
  refine g_pu rfl rfl rfl (pu_neq_f rfl rfl rfl (fun h => h rfl)) ?_
  refine g_pu rfl rfl rfl (pu_move rfl rfl) ?_
  first | refine g_pass rfl rfl rfl ?_ | refine g_pu rfl rfl rfl (pu_move rfl rfl) ?_
  first | refine g_pass rfl rfl rfl ?_ | refine g_pu rfl rfl rfl (pu_len rfl rfl) ?_ | refine g_pu rfl rfl rfl (pu_lenS rfl rfl) ?_
  first | refine g_pass rfl rfl rfl ?_ | refine g_pu rfl rfl rfl (pu_move rfl rfl) ?_
  first | refine g_pass rfl rfl rfl ?_ | refine g_pu rfl rfl rfl (pu_len rfl rfl) ?_ | refine g_pu rfl rfl rfl (pu_lenS rfl rfl) ?_
  refine g_pu rfl rfl rfl (pu_neq_f rfl rfl rfl (fun h => h rfl)) ?_
  first | refine g_pu rfl rfl rfl (pu_pick_t rfl rfl rfl) ?_ | refine g_pu rfl rfl rfl (pu_pick_f rfl rfl rfl) ?_
  refine g_nil ?_
  (repeat refine g_seq ?_)
  refine g_cond_f rfl (g_skip ?_)
  have htl := take_len (l := hmacL k1 S) (k := 16) (by rw [hmacL_length]; omega)
  (repeat refine g_seq ?_)
  refine g_region ?_
  refine g_pu rfl rfl rfl (pu_move rfl rfl) ?_
  refine g_pu rfl rfl rfl (pu_at 1 (s := 32) rfl rfl rfl rfl (by omega)) ?_
  refine g_pu rfl rfl rfl (pu_sliceA rfl rfl) ?_
  refine g_pu rfl rfl rfl (pu_move rfl rfl) ?_
  refine g_lo [58] rfl rfl rfl rfl (lo_buildSlice rfl rfl (by decide) (by decide) rfl rfl) (fun b58 hb58 => ?_)
  refine g_call [59] rfl rfl rfl rfl rfl rfl (fun w' hm => Short_b w' 32 1 (key := k1) (LL := [x42.sl n1]) (ls := [S]) (By.subT 23 32 32 rfl hm hd1 (by omega) (by omega)) ⟨hm.rowA 58 rfl, rfl, All2.cons (IsB.own 42 rfl hm hSl (by omega)) All2.nil, by omega⟩ (by omega) (fun l2 hl2 => by obtain rfl := List.mem_singleton.1 hl2; omega) (by rw [flatG]; omega)) (fun x59 _ => ?_)
  rw [flatG]
  refine g_pu rfl rfl rfl (pu_assign rfl rfl) ?_
  refine g_nil ?_
  have hpl := padK_length k1 54#8
  have hpl2 := padK_length k1 92#8
  (repeat refine g_seq ?_)
  refine g_region ?_
  refine g_pu rfl rfl rfl (pu_move rfl rfl) ?_
  refine g_pu rfl rfl rfl (pu_at 1 (s := 32) rfl rfl rfl rfl (by omega)) ?_
  refine g_pu rfl rfl rfl (pu_sliceA rfl rfl) ?_
  refine g_call [63, 163, 263] rfl rfl rfl rfl rfl rfl (fun w' hm => NewTagger_b w' 32 (By.subT 23 32 32 rfl hm hd1 (by omega) (by omega)) (by omega)) (fun x63 _ => ?_)
  refine g_pu rfl rfl rfl (pu_assign rfl rfl) ?_
  refine g_nil ?_
  (repeat refine g_seq ?_)
  refine g_region ?_
  refine g_pu rfl rfl rfl (pu_move rfl rfl) ?_
  first | refine g_pu rfl rfl rfl (pu_len rfl rfl) ?_ | refine g_pu rfl rfl rfl (pu_lenS rfl rfl) ?_
  refine g_pu rfl rfl rfl (pu_move rfl rfl) ?_
  refine g_nil ?_
  refine g_block (g_loop2 (fun (i : Nat) (y : Ow) => [(1, .slice q n1 d), (2, .int .i64 bit), (7, .slice (some ⟨bk, 0, none⟩) 2 xc), (8, x42.sl n1), (10, x59.sl 16), (11, .pointer (some ⟨x63.1, 0, none⟩)), (64, x42.sl n1), (65, .int .i64 (n1 : Int)), (66, .int .i64 (i : Int))]) (fun i y => [(23, .pt bk (.cells (bs K ++ Jk).toArray 24 (0, 0))), (42, x42.ck 5 1 (bs S)), (59, x59.ck 24 1 (bs ((hmacL k1 S).take 16))), (63, .pt x63.1 (.cells (tagC (padK k1 54#8 ++ S.take i) y x63.2.2).toArray 56 (0, 0))), (163, y.ckO 5 (bs (restL (padK k1 54#8 ++ S.take i)))), (263, x63.2.2.ck 5 1 (bs (padK k1 92#8)))]) (fun i _ => i ≤ n1) (fun i _ => n1 - i) 0 x63.2.1 ⟨rfl, rfl, rfl, rfl, rfl, rfl, rfl, rfl, rfl, trivial⟩ ⟨rfl, rfl, rfl, by rw [List.take_zero, List.append_nil (padK k1 54#8)]; rfl, by rw [List.take_zero, List.append_nil (padK k1 54#8)]; rfl, rfl, trivial⟩ (by omega) ?_)
  intro i y hi
  by_cases hlt : i < n1
  · (repeat refine g_seq ?_)
    refine g_region ?_
    first | refine g_pu rfl rfl rfl (pu_lss_t rfl rfl rfl (by omega)) ?_ | refine g_pu rfl rfl rfl (pu_lss_f rfl rfl rfl (by omega)) ?_ | refine g_pu rfl rfl rfl (pu_lss rfl rfl rfl) ?_
    refine g_nil ?_
    (repeat refine g_seq ?_)
    refine g_cond_t rfl (g_skip ?_)
    have hv : S[i]? = some S[i] := List.getElem?_eq_getElem (by omega)
    generalize S[i] = v at hv
    have hstep : S.take i ++ [v] = S.take (i + 1) := by rw [List.take_add_one, hv]; rfl
    have hti : (S.take i).length = i := by rw [List.length_take]; omega
    (repeat refine g_seq ?_); refine g_block ?_
    (repeat refine g_seq ?_)
    refine g_region ?_
    refine g_pu rfl rfl rfl (pu_atM1 i (L := bs S) (fun w' hm => Ow.rd (t := 42) rfl hm) rfl rfl rfl rfl hlt (by rw [bs_length]; omega)) ?_
    refine g_pu rfl rfl rfl (pu_rdM (L := bs S) (fun w' hm => Ow.rd (t := 42) rfl hm) rfl rfl (bs_get hv)) ?_
    refine g_pu rfl rfl rfl (pu_assign rfl rfl) ?_
    refine g_nil ?_
    (repeat refine g_seq ?_)
    refine g_region ?_
    refine g_pu rfl rfl rfl (pu_move rfl rfl) ?_
    refine g_pu rfl rfl rfl (pu_nil rfl rfl) ?_
    refine g_pu rfl rfl rfl (pu_fieldAddr (by decide) rfl rfl) ?_
    refine g_pu rfl rfl rfl (pu_move rfl rfl) ?_
    refine g_lo [74] rfl rfl rfl rfl (lo_buildSlice rfl rfl (by decide) (by decide) rfl rfl) (fun b74 hb74 => ?_)
    refine g_lo [75] rfl rfl rfl rfl (lo_buildSlice rfl rfl (by decide) (by decide) rfl rfl) (fun b75 hb75 => ?_)
    refine g_callW [63, 163] [63, 163] rfl rfl rfl rfl rfl rfl (fun j hj => hj.elim (fun h => ⟨63, by simp, _, rfl, h⟩) (fun h => ⟨163, by simp, _, rfl, h⟩)) (fun w' hm => Write_g w' x63.1 (L := padK k1 54#8 ++ S.take i) (J := [x63.2.2.sl 64]) y 1 (LL := [.slice (some ⟨b74, 0, none⟩) 1 1]) (ls := [[v]]) (hm.holds 63 _ rfl) (hm.holds 163 _ rfl) (fun j hj he => hm.apart 163 _ 63 _ rfl rfl (by decide) j hj he) (fun j hj => hm.below 163 _ rfl j hj) (hm.rowA 75 rfl) rfl (All2.cons (IsB.full 74 (l := [v]) rfl hm rfl (by omega)) All2.nil) (fun _ b o e hb => by cases e; exact hb.elim (fun h1 => hm.apart 75 _ 63 _ rfl rfl (by decide) _ rfl h1) (fun h1 => hm.apart 75 _ 163 _ rfl rfl (by decide) _ rfl h1)) (fun q m c hv _ j hj hb => by cases List.mem_singleton.1 hv; exact hb.elim (fun h1 => hm.apart 74 _ 63 _ rfl rfl (by decide) j (At.some.1 hj) h1) (fun h1 => hm.apart 74 _ 163 _ rfl rfl (by decide) j (At.some.1 hj) h1)) (by omega) (fun l2 hl2 => by obtain rfl := List.mem_singleton.1 hl2; simp) (by rw [flatG, List.length_append, hpl, hti]; simp; omega)) (fun y' _ => ?_)
    rw [flatG, List.append_assoc, hstep]
    refine g_nil ?_
    refine g_blk ?_
    (repeat refine g_seq ?_)
    refine g_region ?_
    refine g_pu rfl rfl rfl (pu_addI rfl rfl rfl (by omega)) ?_
    refine g_pu rfl rfl rfl (pu_move rfl rfl) ?_
    refine g_nil ?_
    exact g_round2 (i + 1) y' (by omega) (by omega) ⟨rfl, rfl, rfl, rfl, rfl, rfl, rfl, rfl, rfl, trivial⟩ ⟨rfl, rfl, rfl, rfl, rfl, rfl, trivial⟩
  · (repeat refine g_seq ?_)
    refine g_region ?_
    first | refine g_pu rfl rfl rfl (pu_lss_t rfl rfl rfl (by omega)) ?_ | refine g_pu rfl rfl rfl (pu_lss_f rfl rfl rfl (by omega)) ?_ | refine g_pu rfl rfl rfl (pu_lss rfl rfl rfl) ?_
    refine g_nil ?_
    (repeat refine g_seq ?_)
    refine g_cond_f rfl (g_exit rfl ?_)
    rw [show S.take i = S from List.take_of_length_le (by omega)]
    have hH : shaL (padK k1 92#8 ++ shaL (padK k1 54#8 ++ S)) = hmacL k1 S := rfl
    have hal : (padK k1 54#8 ++ S).length = 64 + n1 := by rw [List.length_append, hpl, hSl]
    (repeat refine g_seq ?_)
    refine g_region ?_
    refine g_pu rfl rfl rfl (pu_move rfl rfl) ?_
    first | refine g_pu rfl rfl rfl (pu_len rfl rfl) ?_ | refine g_pu rfl rfl rfl (pu_lenS rfl rfl) ?_
    refine g_pu rfl rfl rfl (pu_neq_f rfl rfl rfl (fun h => h rfl)) ?_
    refine g_pu rfl rfl rfl (pu_move rfl rfl) ?_
    first | refine g_pass rfl rfl rfl ?_ | refine g_pu rfl rfl rfl (pu_move rfl rfl) ?_
    refine g_pu rfl rfl rfl (pu_at 1 (s := 32) rfl rfl rfl rfl (by omega)) ?_
    refine g_pu rfl rfl rfl (pu_sliceA rfl rfl) ?_
    first | refine g_pass rfl rfl rfl ?_ | refine g_pu rfl rfl rfl (pu_move rfl rfl) ?_
    first | refine g_pass rfl rfl rfl ?_ | refine g_pu rfl rfl rfl (pu_move rfl rfl) ?_
    first | (refine g_pass rfl rfl rfl ?_) | (refine g_lo [87] rfl rfl rfl rfl (lo_buildSlice rfl rfl (by decide) (by decide) rfl rfl) (fun b87 hb87 => ?_))
    refine g_call [] rfl rfl rfl rfl rfl rfl (fun w' hm => MCheck_b w' 32 1 x59.c (key := k1) (tg := (hmacL k1 S).take 16) (LL := [x42.sl n1]) (ls := [S]) (By.subT 23 32 32 rfl hm hd1 (by omega) (by omega)) (By.ow 59 rfl hm htl (by omega)) ⟨hm.rowA 87 rfl, rfl, All2.cons (IsB.own 42 rfl hm hSl (by omega)) All2.nil, by omega⟩ (by omega) (fun l2 hl2 => by obtain rfl := List.mem_singleton.1 hl2; omega) (by rw [flatG]; omega)) (fun _ _ => ?_)
    rw [flatG, decide_eq_true (rfl : (hmacL k1 S).take 16 = (hmacL k1 S).take 16)]
    first | refine g_pass rfl rfl rfl ?_ | refine g_pu rfl rfl rfl (pu_not rfl rfl) ?_
    first | refine g_pu rfl rfl rfl (pu_pick_t rfl rfl rfl) ?_ | refine g_pu rfl rfl rfl (pu_pick_f rfl rfl rfl) ?_
    refine g_pu rfl rfl rfl (pu_move rfl rfl) ?_
    first | refine g_pass rfl rfl rfl ?_ | refine g_pu rfl rfl rfl (pu_move rfl rfl) ?_
    first | refine g_pass rfl rfl rfl ?_ | refine g_pu rfl rfl rfl (pu_move rfl rfl) ?_
    refine g_call [] rfl rfl rfl rfl rfl rfl (fun w' hm => Fits_b w' x63.1 (L := padK k1 54#8 ++ S) (ob := padK k1 92#8) (tg := (hmacL k1 S).take 16) y x63.2.2 x59.c (hm.holds 63 _ rfl) (OwnO.rd (hm.holds 163 _ rfl)) (By.ow 263 rfl hm hpl2 (by omega)) (By.ow 59 rfl hm htl (by omega)) (by omega)) (fun _ _ => ?_)
    rw [hH, decide_eq_true (rfl : (hmacL k1 S).take 16 = (hmacL k1 S).take 16)]
    first | refine g_pass rfl rfl rfl ?_ | refine g_pu rfl rfl rfl (pu_not rfl rfl) ?_
    first | refine g_pu rfl rfl rfl (pu_pick_t rfl rfl rfl) ?_ | refine g_pu rfl rfl rfl (pu_pick_f rfl rfl rfl) ?_
    refine g_nil ?_
    (repeat refine g_seq ?_)
    refine g_cond_f rfl (g_skip ?_)
    (repeat refine g_seq ?_)
    refine g_region ?_
    refine g_pu rfl rfl rfl (pu_move rfl rfl) ?_
    refine g_pu rfl rfl rfl (pu_at 0 (s := 32) rfl rfl rfl rfl (by omega)) ?_
    refine g_pu rfl rfl rfl (pu_sliceA rfl rfl) ?_
    refine g_call [101] rfl rfl rfl rfl rfl rfl (fun w' hm => New_b w' 32 (By.subT 23 0 32 rfl hm hd0 (by omega) (by omega))) (fun x101 _ => ?_)
    refine g_pu rfl rfl rfl (pu_move rfl rfl) ?_
    refine g_pu rfl rfl rfl (pu_extract rfl rfl rfl) ?_
    refine g_pu rfl rfl rfl (pu_extract rfl rfl rfl) ?_
    refine g_pu rfl rfl rfl (pu_assign rfl rfl) ?_
    refine g_pu rfl rfl rfl (pu_assign rfl rfl) ?_
    refine g_nil ?_
    (repeat refine g_seq ?_)
    refine g_region ?_
    refine g_pu rfl rfl rfl (pu_move rfl rfl) ?_
    refine g_pu rfl rfl rfl (pu_neq_f rfl rfl rfl (fun h => h rfl)) ?_
    refine g_pu rfl rfl rfl (pu_move rfl rfl) ?_
    first | refine g_pass rfl rfl rfl ?_ | refine g_pu rfl rfl rfl (pu_move rfl rfl) ?_
    refine g_pu rfl rfl rfl (pu_eqlP rfl rfl rfl) ?_
    first | refine g_pu rfl rfl rfl (pu_pick_t rfl rfl rfl) ?_ | refine g_pu rfl rfl rfl (pu_pick_f rfl rfl rfl) ?_
    refine g_nil ?_
    (repeat refine g_seq ?_)
    refine g_cond_f rfl (g_skip ?_)
    obtain ⟨H, hHe, hHn⟩ : ∃ H : Nat, (n1 : Int) / 2 = (H : Int) ∧ H ≤ n1 := ⟨n1 / 2, by omega, by omega⟩
    obtain ⟨hA, hB⟩ := hhalf H hHn
    have hTl : (S.take H).length = H := by rw [List.length_take]; omega
    have hDl : (S.drop H).length = n1 - H := by rw [List.length_drop]; omega
    have hlA : (l.take H).length = H := by rw [List.length_take]; omega
    have hlB : (l.drop H).length = n1 - H := by rw [List.length_drop]; omega
    refine g_know (φ := n1 ≤ x42.c) (fun w' hm => leT hm 42 rfl hSl) (fun hxc => ?_)
    (repeat refine g_seq ?_)
    refine g_region ?_
    refine g_pu rfl rfl rfl (pu_move rfl rfl) ?_
    first | refine g_pu rfl rfl rfl (pu_len rfl rfl) ?_ | refine g_pu rfl rfl rfl (pu_lenS rfl rfl) ?_
    refine g_pu rfl rfl rfl (pu_quoI rfl rfl rfl (by omega)) ?_
    rw [hHe]
    refine g_pu rfl rfl rfl (pu_assign rfl rfl) ?_
    refine g_nil ?_
    (repeat refine g_seq ?_)
    refine g_region ?_
    refine g_pu rfl rfl rfl (pu_move rfl rfl) ?_
    refine g_pu rfl rfl rfl (pu_move rfl rfl) ?_
    refine g_pu rfl rfl rfl (pu_move rfl rfl) ?_
    refine g_pu rfl rfl rfl (pu_slice_h H rfl rfl rfl rfl (by omega)) ?_
    refine g_lo [118] rfl rfl rfl rfl (lo_buildSlice rfl rfl (by decide) (by decide) rfl rfl) (fun b118 hb118 => ?_)
    refine g_callW [101] [119, 101] rfl rfl rfl rfl rfl rfl (fun j hj => ⟨101, by simp, _, rfl, hj⟩) (fun w' hm => FTurn_b w' x101 0 1 (L := [.slice x42.p H x42.c]) (ls := [S.take H]) (hm.holds 101 _ rfl) hk0 ⟨hm.rowA 118 rfl, rfl, All2.cons ⟨_, _, _, rfl, (By.ow 42 rfl hm hSl (by omega)).takeT hHn, fun _ _ => trivial⟩ All2.nil, by omega⟩ (by omega) (by rw [flatG]; omega) (fun _ b o e h => by cases e; exact hm.apart 118 _ 101 _ rfl rfl (by decide) _ rfl h) (fun q m c hv h0 j hj h => by cases List.mem_singleton.1 hv; exact hm.apart 42 _ 101 _ rfl rfl (by decide) j hj h) (by rw [flatG]; omega)) (fun x119 _ => ?_)
    rw [flatG, hTl, hA, Nat.zero_add H]
    refine g_pu rfl rfl rfl (pu_move rfl rfl) ?_
    refine g_pu rfl rfl rfl (pu_extract rfl rfl rfl) ?_
    refine g_pu rfl rfl rfl (pu_extract rfl rfl rfl) ?_
    refine g_pu rfl rfl rfl (pu_assign rfl rfl) ?_
    refine g_pu rfl rfl rfl (pu_assign rfl rfl) ?_
    refine g_nil ?_
    (repeat refine g_seq ?_)
    refine g_region ?_
    refine g_pu rfl rfl rfl (pu_move rfl rfl) ?_
    refine g_pu rfl rfl rfl (pu_move rfl rfl) ?_
    refine g_pu rfl rfl rfl (pu_move rfl rfl) ?_
    refine g_pu rfl rfl rfl (pu_slice_l H rfl rfl rfl rfl hHn) ?_
    refine g_lo [127] rfl rfl rfl rfl (lo_buildSlice rfl rfl (by decide) (by decide) rfl rfl) (fun b127 hb127 => ?_)
    refine g_callW [101] [128, 101] rfl rfl rfl rfl rfl rfl (fun j hj => ⟨101, by simp, _, rfl, hj⟩) (fun w' hm => FTurn_b w' x101 H 1 (L := [.slice (cutp x42.p x42.c H 1) (n1 - H) (x42.c - H)]) (ls := [S.drop H]) (hm.holds 101 _ rfl) hk0 ⟨hm.rowA 127 rfl, rfl, All2.cons ⟨_, _, _, rfl, ⟨by rw [← bs_drop]; exact (Ow.rd (t := 42) rfl hm : RdV w' x42.p (bs S)).cut (by rw [bs_length, hSl]; exact hxc), hDl, by omega⟩, fun _ _ => trivial⟩ All2.nil, by omega⟩ (by omega) (by rw [flatG]; omega) (fun _ b o e h => by cases e; exact hm.apart 127 _ 101 _ rfl rfl (by decide) _ rfl h) (fun q m c hv h0 j hj h => by cases List.mem_singleton.1 hv; exact hm.apart 42 _ 101 _ rfl rfl (by decide) j (At.cut.1 hj) h) (by rw [flatG]; omega)) (fun x128 _ => ?_)
    rw [flatG, hDl, hB]
    refine g_pu rfl rfl rfl (pu_move rfl rfl) ?_
    refine g_pu rfl rfl rfl (pu_extract rfl rfl rfl) ?_
    refine g_pu rfl rfl rfl (pu_extract rfl rfl rfl) ?_
    refine g_pu rfl rfl rfl (pu_assign rfl rfl) ?_
    refine g_pu rfl rfl rfl (pu_assign rfl rfl) ?_
    refine g_nil ?_
    (repeat refine g_seq ?_)
    refine g_region ?_
    refine g_pu rfl rfl rfl (pu_move rfl rfl) ?_
    refine g_pu rfl rfl rfl (pu_neq_f rfl rfl rfl (fun h => h rfl)) ?_
    refine g_pu rfl rfl rfl (pu_move rfl rfl) ?_
    first | refine g_pass rfl rfl rfl ?_ | refine g_pu rfl rfl rfl (pu_move rfl rfl) ?_
    refine g_pu rfl rfl rfl (pu_neq_f rfl rfl rfl (fun h => h rfl)) ?_
    first | refine g_pu rfl rfl rfl (pu_pick_t rfl rfl rfl) ?_ | refine g_pu rfl rfl rfl (pu_pick_f rfl rfl rfl) ?_
    refine g_pu rfl rfl rfl (pu_move rfl rfl) ?_
    refine g_lo [138] rfl rfl rfl rfl (lo_buildSlice0 rfl) (fun b138 hb138 => ?_)
    refine g_own 138 (L := []) (J := []) (c := 0) (s := 1) rfl (by simp) (by omega) ?_
    first | refine g_pass rfl rfl rfl ?_ | refine g_pu rfl rfl rfl (pu_move rfl rfl) ?_
    refine g_append1 138 (bs (l.take H)) rfl rfl rfl rfl rfl rfl rfl rfl rfl (fun w' hm => Ow.rd (t := 119) rfl hm) (by rw [bs_length, hlA]) (oneCell_bs _) (by omega) (by omega) (fun p1 c1 => ?_)
    rw [Nat.zero_add, List.nil_append]
    first | refine g_pass rfl rfl rfl ?_ | refine g_pu rfl rfl rfl (pu_move rfl rfl) ?_
    refine g_append1 138 (bs (l.drop H)) rfl rfl rfl rfl rfl rfl rfl rfl (by rw [bs_length, hlA]) (fun w' hm => Ow.rd (t := 128) rfl hm) (by rw [bs_length, hlB]) (oneCell_bs _) (by omega) (by omega) (fun p2 c2 => ?_)
    rw [← bs_append, List.take_append_drop, Nat.add_sub_cancel' hHn]
    first | refine g_pass rfl rfl rfl ?_ | refine g_pu rfl rfl rfl (pu_move rfl rfl) ?_
    refine g_call [] rfl rfl rfl rfl rfl rfl (fun w' hm => sameB_b w' c2 d (a := l) (b := l) (By.own 138 rfl hm hll (by omega)) (hl.m hm)) (fun _ _ => ?_)
    rw [decide_eq_true (rfl : l = l)]
    first | refine g_pass rfl rfl rfl ?_ | refine g_pu rfl rfl rfl (pu_not rfl rfl) ?_
    first | refine g_pu rfl rfl rfl (pu_pick_t rfl rfl rfl) ?_ | refine g_pu rfl rfl rfl (pu_pick_f rfl rfl rfl) ?_
    refine g_nil ?_
    (repeat refine g_seq ?_)
    refine g_cond_f rfl (g_skip ?_)
    by_cases hb0 : bit < 0
    · (repeat refine g_seq ?_)
      refine g_region ?_
      refine g_pu rfl rfl rfl (pu_move rfl rfl) ?_
      refine g_pu rfl rfl rfl (pu_lss_t rfl rfl rfl hb0) ?_
      refine g_pu rfl rfl rfl (pu_move rfl rfl) ?_
      first | refine g_pass rfl rfl rfl ?_ | refine g_pu rfl rfl rfl (pu_move rfl rfl) ?_
      first | refine g_pass rfl rfl rfl ?_ | refine g_pu rfl rfl rfl (pu_move rfl rfl) ?_
      first | refine g_pass rfl rfl rfl ?_ | refine g_pu rfl rfl rfl (pu_len rfl rfl) ?_ | refine g_pu rfl rfl rfl (pu_lenS rfl rfl) ?_
      first | refine g_pass rfl rfl rfl ?_ | refine g_pu rfl rfl rfl (pu_mulI rfl rfl rfl (by omega)) ?_
      first | refine g_pass rfl rfl rfl ?_ | refine g_pu rfl rfl rfl (pu_geq_t rfl rfl rfl (by omega)) ?_ | refine g_pu rfl rfl rfl (pu_geq_f rfl rfl rfl (by omega)) ?_ | refine g_pu rfl rfl rfl (pu_geq rfl rfl rfl) ?_
      first | refine g_pu rfl rfl rfl (pu_pick_t rfl rfl rfl) ?_ | refine g_pu rfl rfl rfl (pu_pick_f rfl rfl rfl) ?_
      refine g_nil ?_
      (repeat refine g_seq ?_)
      refine g_cond_t rfl ?_
      (repeat refine g_seq ?_)
      refine g_region ?_
      refine g_pu rfl rfl rfl (pu_assign rfl rfl) ?_
      refine g_nil ?_
      exact g_ret1 rfl rfl (fun w' hm => ⟨(), trivial, rfl, hm.grows [] trivial rfl⟩)
    by_cases hb8 : bit ≥ 8 * (n1 : Int)
    · (repeat refine g_seq ?_)
      refine g_region ?_
      refine g_pu rfl rfl rfl (pu_move rfl rfl) ?_
      refine g_pu rfl rfl rfl (pu_lss_f rfl rfl rfl hb0) ?_
      refine g_pu rfl rfl rfl (pu_move rfl rfl) ?_
      first | refine g_pass rfl rfl rfl ?_ | refine g_pu rfl rfl rfl (pu_move rfl rfl) ?_
      first | refine g_pass rfl rfl rfl ?_ | refine g_pu rfl rfl rfl (pu_move rfl rfl) ?_
      first | refine g_pass rfl rfl rfl ?_ | refine g_pu rfl rfl rfl (pu_len rfl rfl) ?_ | refine g_pu rfl rfl rfl (pu_lenS rfl rfl) ?_
      refine g_pu rfl rfl rfl (pu_mulI rfl rfl rfl (by omega)) ?_
      refine g_pu rfl rfl rfl (pu_geq_t rfl rfl rfl hb8) ?_
      first | refine g_pu rfl rfl rfl (pu_pick_t rfl rfl rfl) ?_ | refine g_pu rfl rfl rfl (pu_pick_f rfl rfl rfl) ?_
      refine g_nil ?_
      (repeat refine g_seq ?_)
      refine g_cond_t rfl ?_
      (repeat refine g_seq ?_)
      refine g_region ?_
      refine g_pu rfl rfl rfl (pu_assign rfl rfl) ?_
      refine g_nil ?_
      exact g_ret1 rfl rfl (fun w' hm => ⟨(), trivial, rfl, hm.grows [] trivial rfl⟩)
    (repeat refine g_seq ?_)
    refine g_region ?_
    refine g_pu rfl rfl rfl (pu_move rfl rfl) ?_
    refine g_pu rfl rfl rfl (pu_lss_f rfl rfl rfl hb0) ?_
    refine g_pu rfl rfl rfl (pu_move rfl rfl) ?_
    first | refine g_pass rfl rfl rfl ?_ | refine g_pu rfl rfl rfl (pu_move rfl rfl) ?_
    first | refine g_pass rfl rfl rfl ?_ | refine g_pu rfl rfl rfl (pu_move rfl rfl) ?_
    first | refine g_pass rfl rfl rfl ?_ | refine g_pu rfl rfl rfl (pu_len rfl rfl) ?_ | refine g_pu rfl rfl rfl (pu_lenS rfl rfl) ?_
    refine g_pu rfl rfl rfl (pu_mulI rfl rfl rfl (by omega)) ?_
    refine g_pu rfl rfl rfl (pu_geq_f rfl rfl rfl hb8) ?_
    first | refine g_pu rfl rfl rfl (pu_pick_t rfl rfl rfl) ?_ | refine g_pu rfl rfl rfl (pu_pick_f rfl rfl rfl) ?_
    refine g_nil ?_
    (repeat refine g_seq ?_)
    refine g_cond_f rfl (g_skip ?_)
    obtain ⟨t, rfl⟩ := Int.eq_ofNat_of_zero_le (show 0 ≤ bit by omega)
    (repeat refine g_seq ?_)
    refine g_region ?_
    refine g_lo [156] rfl rfl rfl rfl (lo_buildSlice0 rfl) (fun b156 hb156 => ?_)
    refine g_own 156 (L := []) (J := []) (c := 0) (s := 1) rfl (by simp) (by omega) ?_
    refine g_pu rfl rfl rfl (pu_move rfl rfl) ?_
    refine g_append1 156 (bs S) rfl rfl rfl rfl rfl rfl rfl rfl rfl (fun w' hm => Ow.rd (t := 42) rfl hm) (by rw [bs_length, hSl]) (oneCell_bs _) (by omega) (by omega) (fun p3 c3 => ?_)
    rw [Nat.zero_add, List.nil_append]
    refine g_pu rfl rfl rfl (pu_assign rfl rfl) ?_
    refine g_nil ?_
    have hj : t / 8 < n1 := by omega
    have hv : S[t / 8]? = some S[t / 8] := List.getElem?_eq_getElem (by omega)
    generalize S[t / 8] = v at hv
    (repeat refine g_seq ?_)
    refine g_row 156 rfl (by rw [bs_length]; omega) (fun bb J hp hJ hcap => ?_)
    subst hp
    (repeat refine g_seq ?_)
    refine g_any (10, []) ?_
    refine a_pu 0 rfl rfl rfl rfl (pu_move rfl rfl) rfl rfl (by kernel_rfl) ?_
    refine a_pu 1 rfl rfl rfl rfl (pu_move rfl rfl) rfl rfl (by kernel_rfl) ?_
    refine a_pu 2 rfl rfl rfl rfl (pu_quoI rfl rfl rfl (by omega)) rfl rfl (by kernel_rfl) ?_
    refine a_pu 3 rfl rfl rfl rfl (pu_at1 (t / 8) rfl rfl rfl (by omega) hj) rfl rfl (by kernel_rfl) ?_
    refine a_pu 4 rfl rfl rfl rfl (pu_load 156 rfl rfl rfl (bs_load hv)) rfl rfl (by kernel_rfl) ?_
    refine a_pu 5 rfl rfl rfl rfl (pu_move rfl rfl) rfl rfl (by kernel_rfl) ?_
    refine a_pu 6 rfl rfl rfl rfl (pu_remI rfl rfl rfl (by omega)) rfl rfl (by kernel_rfl) ?_
    refine a_pu 7 rfl rfl rfl rfl (pu_shl8 (a := 1#8) rfl rfl rfl (by omega)) rfl rfl (by kernel_rfl) ?_
    refine a_pu 8 rfl rfl rfl rfl (pu_xor8 rfl rfl rfl) rfl rfl (by kernel_rfl) ?_
    refine a_pu 9 rfl rfl rfl rfl (pu_at1 (t / 8) rfl rfl rfl (by omega) hj) rfl rfl (by kernel_rfl) ?_
    refine a_tail [10] (by kernel_rfl) rfl rfl (by kernel_rfl) ?_
    refine g_store 156 (v := b8 (v ^^^ (1#8 <<< ((t : Int) % 8).toNat))) rfl rfl rfl rfl rfl rfl rfl (by rw [List.length_append, bs_length]; omega) ?_
    rw [Nat.zero_add, bs_set _ J _ _ (by omega)]
    refine g_nil ?_
    have hS2 : (S.set (t / 8) (v ^^^ (1#8 <<< ((t : Int) % 8).toNat))).length = n1 := by rw [List.length_set, hSl]
    generalize S.set (t / 8) (v ^^^ (1#8 <<< ((t : Int) % 8).toNat)) = S2 at hS2
    have htl2 := take_len (l := hmacL k1 S2) (k := 16) (by rw [hmacL_length]; omega)
    refine g_own 156 (L := bs S2) (J := J) (c := c3) (s := 1) rfl (by simp only [List.length_append, bs_length] at hJ ⊢; omega) hcap ?_
    (repeat refine g_seq ?_)
    refine g_any (5, [0, 1, 2, 3, 7, 8, 9, 10, 12]) ?_
    first | refine a_mv 0 rfl rfl rfl rfl (fun _ => (pu_move rfl rfl)) rfl rfl rfl (by kernel_rfl) (by kernel_rfl) (by kernel_rfl) rfl ?_
    refine a_mv 1 rfl rfl rfl rfl (fun _ => pu_at 1 (s := 32) rfl rfl rfl rfl (by omega)) rfl rfl rfl (by kernel_rfl) (by kernel_rfl) (by kernel_rfl) rfl ?_
    refine a_mv 2 rfl rfl rfl rfl (fun _ => pu_sliceA rfl rfl) rfl rfl rfl (by kernel_rfl) (by kernel_rfl) (by kernel_rfl) rfl ?_
    first | refine a_mv 3 rfl rfl rfl rfl (fun _ => (pu_move rfl rfl)) rfl rfl rfl (by kernel_rfl) (by kernel_rfl) (by kernel_rfl) rfl ?_
    refine a_pu 4 rfl rfl rfl rfl (pu_move rfl rfl) rfl rfl (by kernel_rfl) ?_
    first | refine a_mv 7 rfl rfl rfl rfl (fun _ => (pu_move rfl rfl)) rfl rfl rfl (by kernel_rfl) (by kernel_rfl) (by kernel_rfl) rfl ?_
    refine a_mv 8 rfl rfl rfl rfl (fun _ => pu_at 1 (s := 32) rfl rfl rfl rfl (by omega)) rfl rfl rfl (by kernel_rfl) (by kernel_rfl) (by kernel_rfl) rfl ?_
    refine a_mv 9 rfl rfl rfl rfl (fun _ => pu_sliceA rfl rfl) rfl rfl rfl (by kernel_rfl) (by kernel_rfl) (by kernel_rfl) rfl ?_
    first | refine a_mv 10 rfl rfl rfl rfl (fun _ => (pu_move rfl rfl)) rfl rfl rfl (by kernel_rfl) (by kernel_rfl) (by kernel_rfl) rfl ?_
    first | refine a_mv 12 rfl rfl rfl rfl (fun _ => (pu_move rfl rfl)) rfl rfl rfl (by kernel_rfl) (by kernel_rfl) (by kernel_rfl) rfl ?_
    refine a_tail [5, 6, 11, 13, 14, 15] (by kernel_rfl) rfl rfl (by kernel_rfl) ?_
    refine g_lo [174] rfl rfl rfl rfl (lo_buildSlice rfl rfl (by decide) (by decide) rfl rfl) (fun b174 hb174 => ?_)
    refine g_call [] rfl rfl rfl rfl rfl rfl (fun w' hm => MCheck_b w' 32 1 x59.c (key := k1) (tg := (hmacL k1 S).take 16) (LL := [.slice (some ⟨bb, 0, none⟩) n1 c3]) (ls := [S2]) (By.subT 23 32 32 rfl hm hd1 (by omega) (by omega)) (By.ow 59 rfl hm htl (by omega)) ⟨hm.rowA 174 rfl, rfl, All2.cons ⟨_, _, _, rfl, By.own 156 rfl hm hS2 (by omega), fun _ _ => trivial⟩ All2.nil, by omega⟩ (by omega) (fun l2 hl2 => by obtain rfl := List.mem_singleton.1 hl2; omega) (by rw [flatG]; omega)) (fun _ _ => ?_)
    rw [flatG]
    refine g_call [180] rfl rfl rfl rfl rfl rfl (fun w' hm => RShort_b w' 32 c3 (key := k1) (b := S2) (By.subT 23 32 32 rfl hm hd1 (by omega) (by omega)) (By.own 156 rfl hm hS2 (by omega)) (by omega) (by omega)) (fun x180 _ => ?_)
    refine g_call [] rfl rfl rfl rfl rfl rfl (fun w' hm => sameB_b w' x180.c x59.c (a := (hmacL k1 S2).take 16) (b := (hmacL k1 S).take 16) (By.ow 180 rfl hm htl2 (by omega)) (By.ow 59 rfl hm htl (by omega))) (fun _ _ => ?_)
    refine g_pu rfl rfl rfl (pu_eqlB_t rfl rfl rfl (decide_eq_decide.2 eq_comm)) ?_
    refine g_pu rfl rfl rfl (pu_assign rfl rfl) ?_
    refine g_nil ?_
    exact g_ret1 rfl rfl (fun w' hm => ⟨(), trivial, rfl, hm.grows [] trivial rfl⟩)
end Go.Sx

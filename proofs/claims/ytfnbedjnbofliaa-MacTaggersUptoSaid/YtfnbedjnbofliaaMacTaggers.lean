/-
  MacTaggers: a tagger's sum is the HMAC of what was written into the hash inside it, however it was parted. Condition: at most 2^38 bytes together.
-/
import Derived.Test.YtfnbedjnbofliaaM2
import Derived.Test.YtfnbedjnbofliaaSxEq
set_option linter.unusedVariables false
set_option linter.unusedSimpArgs false
namespace Go.Sx
open Go Go.Proofs

theorem MacTaggers_spec (w : World) {p q : Option Addr} {n m : Nat} (c d : Nat) {key : List (BitVec 8)} {L : List Value} {ls : List (List (BitVec 8))} (ha : By w p n key) (hb : ByL w q m L ls) (hnb : n ≤ 137438953472) (hlen : ls.flatten.length ≤ 137438953472) :
    Spec Try.prog 5 #[.slice p n c, .slice q m d] w (σ := Unit) (fun _ => True) (fun _ => .bool true) Nob (fun _ => []) := by
  refine enter Try.func5 rfl rfl (Mem.start w) ?_
  have hbig := hb.big
  have hn := hb.len
  have hln := hb.lenL
  have hkl := ha.len
  have hpl := padK_length key 54#8
  have hpl2 := padK_length key 92#8
  (repeat refine g_seq ?_)
  refine g_region ?_
  refine g_pu rfl rfl rfl (pu_assign rfl rfl) ?_
  refine g_nil ?_
  (repeat refine g_seq ?_)
  refine g_region ?_
  refine g_call [] rfl rfl rfl rfl rfl rfl (fun w' hm => awake03_b w') (fun _ _ => ?_)
  refine g_pu rfl rfl rfl (pu_not rfl rfl) ?_
  refine g_nil ?_
  (repeat refine g_seq ?_)
  refine g_cond_f rfl (g_skip ?_)
  (repeat refine g_seq ?_)
  refine g_region ?_
  refine g_pu rfl rfl rfl (pu_move rfl rfl) ?_
  refine g_call [13] rfl rfl rfl rfl rfl rfl (fun w' hm => Copy_b w' c (ha.m hm)) (fun x13 _ => ?_)
  refine g_call [14, 114, 214] rfl rfl rfl rfl rfl rfl (fun w' hm => NewTagger_b w' _ (By.ow 13 rfl hm hkl (by omega)) (by omega)) (fun x14 _ => ?_)
  refine g_pu rfl rfl rfl (pu_assign rfl rfl) ?_
  refine g_nil ?_
  (repeat refine g_seq ?_)
  refine g_region ?_
  refine g_pu rfl rfl rfl (pu_move rfl rfl) ?_
  refine g_pu rfl rfl rfl (pu_eqlP rfl rfl rfl) ?_
  refine g_pu rfl rfl rfl (pu_move rfl rfl) ?_
  first | refine g_pass rfl rfl rfl ?_ | refine g_pu rfl rfl rfl (pu_move rfl rfl) ?_
  first | refine g_pass rfl rfl rfl ?_ | refine g_pu rfl rfl rfl (pu_nil rfl rfl) ?_
  first | refine g_pass rfl rfl rfl ?_ | refine g_pu rfl rfl rfl (pu_fieldAddr (by decide) rfl rfl) ?_
  refine g_call [] rfl rfl rfl rfl rfl rfl (fun w' hm => ShaLen_b w' x14.1 (L := padK key 54#8) (J := [x14.2.2.sl 64]) x14.2.1 (hm.holds 14 _ rfl)) (fun _ _ => ?_)
  refine g_pu rfl rfl rfl (pu_neq_f rfl rfl rfl (by omega)) ?_
  first | refine g_pu rfl rfl rfl (pu_pick_t rfl rfl rfl) ?_ | refine g_pu rfl rfl rfl (pu_pick_f rfl rfl rfl) ?_
  refine g_pu rfl rfl rfl (pu_move rfl rfl) ?_
  first | refine g_pass rfl rfl rfl ?_ | refine g_pu rfl rfl rfl (pu_move rfl rfl) ?_
  refine g_call [] rfl rfl rfl rfl rfl rfl (fun w' hm => TSum_b w' x14.1 (L := padK key 54#8) (ob := padK key 92#8) x14.2.1 x14.2.2 (hm.holds 14 _ rfl) (OwnO.rd (hm.holds 114 _ rfl)) (By.ow 214 rfl hm hpl2 (by omega)) (by omega)) (fun _ _ => ?_)
  first | refine g_pass rfl rfl rfl ?_ | refine g_pu rfl rfl rfl (pu_move rfl rfl) ?_
  refine g_call [] rfl rfl rfl rfl rfl rfl (fun w' hm => RTag_b w' c 0 (ha.m hm) (By.nil w' none) (by omega) (by omega)) (fun _ _ => ?_)
  rw [show hmacL key [] = shaL (padK key 92#8 ++ shaL (padK key 54#8)) by unfold hmacL hmacI; rw [List.append_nil]]
  refine g_pu rfl rfl rfl (pu_neqA_f rfl rfl rfl rfl (all_bs _) (by rw [bs_length, shaL_length])) ?_
  first | refine g_pu rfl rfl rfl (pu_pick_t rfl rfl rfl) ?_ | refine g_pu rfl rfl rfl (pu_pick_f rfl rfl rfl) ?_
  refine g_nil ?_
  (repeat refine g_seq ?_)
  refine g_cond_f rfl (g_skip ?_)
  (repeat refine g_seq ?_)
  refine g_region ?_
  refine g_pu rfl rfl rfl (pu_assign rfl rfl) ?_
  refine g_nil ?_
  refine g_nilOwn 90 5 1 rfl ?_
  (repeat refine g_seq ?_)
  refine g_region ?_
  refine g_pu rfl rfl rfl (pu_move rfl rfl) ?_
  first | refine g_pu rfl rfl rfl (pu_len rfl rfl) ?_ | refine g_pu rfl rfl rfl (pu_lenS rfl rfl) ?_
  refine g_pu rfl rfl rfl (pu_move rfl rfl) ?_
  refine g_nil ?_
  refine g_block (g_loop3 (fun (i : Nat) (y x : Ow) => [(0, .slice p n c), (1, .slice q m d), (5, .pointer (some ⟨x14.1, 0, none⟩)), (6, x.sl (ls.take i).flatten.length), (31, .slice q m d), (32, .int .i64 (m : Int)), (33, .int .i64 (i : Int))]) (fun i y x => [(14, .pt x14.1 (.cells (tagC (padK key 54#8 ++ (ls.take i).flatten) y x14.2.2).toArray 50 (0, 0))), (114, y.ckO 5 (bs (restL (padK key 54#8 ++ (ls.take i).flatten)))), (214, x14.2.2.ck 5 1 (bs (padK key 92#8))), (90, x.ck 5 1 (bs (ls.take i).flatten))]) (fun i _ _ => i ≤ m) (fun i _ _ => m - i) 0 x14.2.1 ⟨none, 0⟩ ⟨rfl, rfl, rfl, rfl, rfl, rfl, rfl, trivial⟩ ⟨by rw [List.take_zero, List.flatten_nil, List.append_nil (padK key 54#8)]; rfl, by rw [List.take_zero, List.flatten_nil, List.append_nil (padK key 54#8)]; rfl, rfl, rfl, trivial⟩ (by omega) ?_)
  intro i y x hi
  by_cases hlt : i < m
  · (repeat refine g_seq ?_)
    refine g_region ?_
    first | refine g_pu rfl rfl rfl (pu_lss_t rfl rfl rfl (by omega)) ?_ | refine g_pu rfl rfl rfl (pu_lss_f rfl rfl rfl (by omega)) ?_ | refine g_pu rfl rfl rfl (pu_lss rfl rfl rfl) ?_
    refine g_nil ?_
    (repeat refine g_seq ?_)
    refine g_cond_t rfl (g_skip ?_)
    have hl : ls[i]? = some ls[i] := List.getElem?_eq_getElem (by omega)
    generalize ls[i] = l at hl
    obtain ⟨qi, mi, ci, hL2, hby⟩ := hb.at hl
    have hbl := hby.len
    have hft := flat_take hl
    have hfl := flat_le ls (i + 1)
    have hfl2 := congrArg List.length hft
    rw [List.length_append] at hfl2
    generalize hT : (ls.take i).flatten = T at hft hfl2
    generalize hT2 : (ls.take (i + 1)).flatten = T2 at hft hfl2 hfl
    subst hft
    have hml := hby.big
    (repeat refine g_seq ?_); refine g_block ?_
    (repeat refine g_seq ?_)
    refine g_region ?_
    refine g_pu rfl rfl rfl (pu_atM1 i (fun w' hm => (hb.m hm).rd) rfl rfl rfl rfl hlt (by omega)) ?_
    refine g_pu rfl rfl rfl (pu_rdM (fun w' hm => (hb.m hm).rd) rfl rfl hL2) ?_
    refine g_pu rfl rfl rfl (pu_assign rfl rfl) ?_
    refine g_nil ?_
    (repeat refine g_seq ?_)
    refine g_any (4, [0, 1, 2]) ?_
    first | refine a_mv 0 rfl rfl rfl rfl (fun _ => (pu_move rfl rfl)) rfl rfl rfl (by kernel_rfl) (by kernel_rfl) (by kernel_rfl) rfl ?_
    first | refine a_mv 1 rfl rfl rfl rfl (fun _ => (pu_nil rfl rfl)) rfl rfl rfl (by kernel_rfl) (by kernel_rfl) (by kernel_rfl) rfl ?_
    first | refine a_mv 2 rfl rfl rfl rfl (fun _ => (pu_fieldAddr (by decide) rfl rfl)) rfl rfl rfl (by kernel_rfl) (by kernel_rfl) (by kernel_rfl) rfl ?_
    refine a_pu 3 rfl rfl rfl rfl (pu_move rfl rfl) rfl rfl (by kernel_rfl) ?_
    refine a_tail [4, 5, 6] (by kernel_rfl) rfl rfl (by kernel_rfl) ?_
    refine g_call [41] rfl rfl rfl rfl rfl rfl (fun w' hm => Copy_b w' ci (hby.m hm)) (fun x41 _ => ?_)
    refine g_lo [42] rfl rfl rfl rfl (lo_buildSlice rfl rfl (by decide) (by decide) rfl rfl) (fun b42 hb42 => ?_)
    refine g_callW [14, 114] [14, 114] rfl rfl rfl rfl rfl rfl (fun j hj => hj.elim (fun h => ⟨14, by simp, _, rfl, h⟩) (fun h => ⟨114, by simp, _, rfl, h⟩)) (fun w' hm => Write_g w' x14.1 (L := padK key 54#8 ++ T) (J := [x14.2.2.sl 64]) y 1 (LL := [x41.sl mi]) (ls := [l]) (hm.holds 14 _ rfl) (hm.holds 114 _ rfl) (fun j hj he => hm.apart 114 _ 14 _ rfl rfl (by decide) j hj he) (fun j hj => hm.below 114 _ rfl j hj) (hm.rowA 42 rfl) rfl (All2.cons (IsB.own 41 rfl hm hbl (by omega)) All2.nil) (fun _ b o e hb => by cases e; exact hb.elim (fun h1 => hm.apart 42 _ 14 _ rfl rfl (by decide) _ rfl h1) (fun h1 => hm.apart 42 _ 114 _ rfl rfl (by decide) _ rfl h1)) (fun q m c hv _ j hj hb => by cases List.mem_singleton.1 hv; exact hb.elim (fun h1 => hm.apart 41 _ 14 _ rfl rfl (by decide) j hj h1) (fun h1 => hm.apart 41 _ 114 _ rfl rfl (by decide) j hj h1)) (by omega) (fun l2 hl2 => by obtain rfl := List.mem_singleton.1 hl2; omega) (by rw [flat1, List.length_append]; omega)) (fun y' _ => ?_)
    rw [flat1, List.append_assoc]
    refine g_nil ?_
    (repeat refine g_seq ?_)
    refine g_region ?_
    refine g_pu rfl rfl rfl (pu_move rfl rfl) ?_
    refine g_pu rfl rfl rfl (pu_move rfl rfl) ?_
    refine g_append1 90 (bs l) rfl rfl rfl rfl rfl rfl rfl rfl (by rw [bs_length]) (fun w' hm => (hby.m hm).rd) (by rw [bs_length, hbl]) (oneCell_bs _) (by omega) (by omega) (fun p' c' => ?_)
    rw [← bs_append]
    refine g_pu rfl rfl rfl (pu_assign rfl rfl) ?_
    refine g_nil ?_
    have hTl : (T ++ l).length = T.length + mi := by rw [List.length_append, hbl]
    (repeat refine g_seq ?_)
    refine g_region ?_
    refine g_pu rfl rfl rfl (pu_move rfl rfl) ?_
    refine g_pu rfl rfl rfl (pu_nil rfl rfl) ?_
    refine g_pu rfl rfl rfl (pu_fieldAddr (by decide) rfl rfl) ?_
    refine g_call [] rfl rfl rfl rfl rfl rfl (fun w' hm => ShaLen_b w' x14.1 (L := padK key 54#8 ++ (T ++ l)) (J := [x14.2.2.sl 64]) y' (hm.holds 14 _ rfl)) (fun _ _ => ?_)
    refine g_pu rfl rfl rfl (pu_move rfl rfl) ?_
    first | refine g_pu rfl rfl rfl (pu_len rfl rfl) ?_ | refine g_pu rfl rfl rfl (pu_lenS rfl rfl) ?_
    refine g_pu rfl rfl rfl (pu_addI rfl rfl rfl (by omega)) ?_
    refine g_pu rfl rfl rfl (pu_neq_f rfl rfl rfl (by rw [List.length_append, hpl]; omega)) ?_
    refine g_nil ?_
    (repeat refine g_seq ?_)
    refine g_cond_f rfl (g_skip ?_)
    refine g_blk ?_
    (repeat refine g_seq ?_)
    refine g_region ?_
    refine g_pu rfl rfl rfl (pu_addI rfl rfl rfl (by omega)) ?_
    refine g_pu rfl rfl rfl (pu_move rfl rfl) ?_
    refine g_nil ?_
    exact g_round3 (i + 1) y' (⟨p', c'⟩ : Ow) (by omega) (by omega) ⟨rfl, rfl, rfl, by rw [hT2, hTl]; rfl, rfl, rfl, rfl, trivial⟩ ⟨by rw [hT2]; rfl, by rw [hT2]; rfl, rfl, by rw [hT2]; rfl, trivial⟩
  · (repeat refine g_seq ?_)
    refine g_region ?_
    first | refine g_pu rfl rfl rfl (pu_lss_t rfl rfl rfl (by omega)) ?_ | refine g_pu rfl rfl rfl (pu_lss_f rfl rfl rfl (by omega)) ?_ | refine g_pu rfl rfl rfl (pu_lss rfl rfl rfl) ?_
    refine g_nil ?_
    (repeat refine g_seq ?_)
    refine g_cond_f rfl (g_exit rfl ?_)
    rw [List.take_of_length_le (by omega)]
    generalize hT : ls.flatten = T at hlen
    have hal : (padK key 54#8 ++ T).length = 64 + T.length := by rw [List.length_append, hpl]
    have hhl := hmacL_length key T
    have htl := take_len (l := hmacL key T) (k := 16) (by omega)
    have hH : shaL (padK key 92#8 ++ shaL (padK key 54#8 ++ T)) = hmacL key T := rfl
    (repeat refine g_seq ?_)
    refine g_region ?_
    refine g_pu rfl rfl rfl (pu_move rfl rfl) ?_
    refine g_pu rfl rfl rfl (pu_move rfl rfl) ?_
    refine g_call [58] rfl rfl rfl rfl rfl rfl (fun w' hm => RShort_b w' c _ (ha.m hm) (By.ow 90 rfl hm rfl (by omega)) (by omega) (by omega)) (fun x58 _ => ?_)
    refine g_pu rfl rfl rfl (pu_assign rfl rfl) ?_
    refine g_nil ?_
    refine g_know (φ := 16 ≤ x58.c) (fun w' hm => by have := Own.le (hm.holds 58 _ rfl); rwa [bs_length, htl] at this) (fun hxc => ?_)
    (repeat refine g_seq ?_)
    refine g_region ?_
    refine g_pu rfl rfl rfl (pu_move rfl rfl) ?_
    refine g_call [] rfl rfl rfl rfl rfl rfl (fun w' hm => TSum_b w' x14.1 (L := padK key 54#8 ++ T) (ob := padK key 92#8) y x14.2.2 (hm.holds 14 _ rfl) (OwnO.rd (hm.holds 114 _ rfl)) (By.ow 214 rfl hm hpl2 (by omega)) (by omega)) (fun _ _ => ?_)
    rw [hH]
    refine g_pu rfl rfl rfl (pu_move rfl rfl) ?_
    refine g_pu rfl rfl rfl (pu_move rfl rfl) ?_
    refine g_call [] rfl rfl rfl rfl rfl rfl (fun w' hm => RTag_b w' c _ (ha.m hm) (By.ow 90 rfl hm rfl (by omega)) (by omega) (by omega)) (fun _ _ => ?_)
    refine g_pu rfl rfl rfl (pu_neqA_f rfl rfl rfl rfl (all_bs _) (by rw [bs_length, hhl])) ?_
    refine g_pu rfl rfl rfl (pu_move rfl rfl) ?_
    first | refine g_pass rfl rfl rfl ?_ | refine g_pu rfl rfl rfl (pu_move rfl rfl) ?_
    first | refine g_pass rfl rfl rfl ?_ | refine g_pu rfl rfl rfl (pu_nil rfl rfl) ?_
    first | refine g_pass rfl rfl rfl ?_ | refine g_pu rfl rfl rfl (pu_fieldAddr (by decide) rfl rfl) ?_
    refine g_call [] rfl rfl rfl rfl rfl rfl (fun w' hm => HashSum_b w' x14.1 (L := padK key 54#8 ++ T) (J := [x14.2.2.sl 64]) y (hm.holds 14 _ rfl) (OwnO.rd (hm.holds 114 _ rfl)) (by omega)) (fun _ _ => ?_)
    first | refine g_pass rfl rfl rfl ?_ | refine g_pu rfl rfl rfl (pu_move rfl rfl) ?_
    first | refine g_pass rfl rfl rfl ?_ | refine g_pu rfl rfl rfl (pu_move rfl rfl) ?_
    refine g_call [] rfl rfl rfl rfl rfl rfl (fun w' hm => Inside_b w' c _ (ha.m hm) (By.ow 90 rfl hm rfl (by omega)) (by omega) (by omega)) (fun _ _ => ?_)
    rw [show hmacI key T = shaL (padK key 54#8 ++ T) from rfl]
    refine g_pu rfl rfl rfl (pu_neqA_f rfl rfl rfl rfl (all_bs _) (by rw [bs_length, shaL_length])) ?_
    first | refine g_pu rfl rfl rfl (pu_pick_t rfl rfl rfl) ?_ | refine g_pu rfl rfl rfl (pu_pick_f rfl rfl rfl) ?_
    refine g_pu rfl rfl rfl (pu_move rfl rfl) ?_
    first | refine g_pass rfl rfl rfl ?_ | refine g_pu rfl rfl rfl (pu_move rfl rfl) ?_
    first | refine g_pass rfl rfl rfl ?_ | refine g_pu rfl rfl rfl (pu_move rfl rfl) ?_
    refine g_call [] rfl rfl rfl rfl rfl rfl (fun w' hm => Fits_b w' x14.1 (L := padK key 54#8 ++ T) (ob := padK key 92#8) (tg := (hmacL key T).take 16) y x14.2.2 _ (hm.holds 14 _ rfl) (OwnO.rd (hm.holds 114 _ rfl)) (By.ow 214 rfl hm hpl2 (by omega)) (By.ow 58 rfl hm htl (by omega)) (by omega)) (fun _ _ => ?_)
    rw [hH, decide_eq_true (rfl : (hmacL key T).take 16 = (hmacL key T).take 16)]
    first | refine g_pass rfl rfl rfl ?_ | refine g_pu rfl rfl rfl (pu_not rfl rfl) ?_
    first | refine g_pu rfl rfl rfl (pu_pick_t rfl rfl rfl) ?_ | refine g_pu rfl rfl rfl (pu_pick_f rfl rfl rfl) ?_
    refine g_pu rfl rfl rfl (pu_move rfl rfl) ?_
    first | refine g_pass rfl rfl rfl ?_ | refine g_pu rfl rfl rfl (pu_move rfl rfl) ?_
    first | refine g_pass rfl rfl rfl ?_ | refine g_pu rfl rfl rfl (pu_move rfl rfl) ?_
    refine g_pu rfl rfl rfl (pu_slice_h 15 rfl rfl rfl rfl (by omega)) ?_
    refine g_call [] rfl rfl rfl rfl rfl rfl (fun w' hm => Fits_b w' x14.1 (L := padK key 54#8 ++ T) (ob := padK key 92#8) (tg := ((hmacL key T).take 16).take 15) y x14.2.2 _ (hm.holds 14 _ rfl) (OwnO.rd (hm.holds 114 _ rfl)) (By.ow 214 rfl hm hpl2 (by omega)) ⟨by rw [← bs_take]; exact (Ow.rd (t := 58) rfl hm : RdV w' _ (bs ((hmacL key T).take 16))).fst, by rw [List.length_take, htl]; rfl, by omega⟩ (by omega)) (fun _ _ => ?_)
    rw [hH, decide_eq_false (fun he => by have := congrArg List.length he; rw [List.length_take, htl] at this; omega)]
    first | refine g_pu rfl rfl rfl (pu_pick_t rfl rfl rfl) ?_ | refine g_pu rfl rfl rfl (pu_pick_f rfl rfl rfl) ?_
    refine g_nil ?_
    (repeat refine g_seq ?_)
    refine g_cond_f rfl (g_skip ?_)
    have hk : T.length % 16 < 16 := Nat.mod_lt _ (by omega)
    generalize hkk : T.length % 16 = k at hk
    have h1 : ((hmacL key T).take 16)[k]? = some (((hmacL key T).take 16).getD k 0#8) := getD_some (by omega)
    generalize ((hmacL key T).take 16).getD k 0#8 = v at h1
    have hne : ¬ ((hmacL key T).take 16).set k (v ^^^ 64#8) = (hmacL key T).take 16 := fun he => by
      have h2 := congrArg (fun l => l[k]?) he
      simp only [List.getElem?_set_self (show k < ((hmacL key T).take 16).length by omega), h1, Option.some.injEq] at h2
      have h3 := congrArg (fun z => z ^^^ v) h2
      simp only [BitVec.xor_self, BitVec.xor_comm v 64#8, BitVec.xor_assoc, BitVec.xor_zero] at h3
      exact absurd h3 (by decide)
    have hsl : (((hmacL key T).take 16).set k (v ^^^ 64#8)).length = 16 := by rw [List.length_set, htl]
    obtain ⟨xp, xc⟩ := x58
    (repeat refine g_seq ?_)
    refine g_row 58 rfl (by rw [bs_length]; omega) (fun bb J hp hJ hcap => ?_)
    simp only at hp
    subst hp
    (repeat refine g_seq ?_)
    refine g_region ?_
    refine g_pu rfl rfl rfl (pu_move rfl rfl) ?_
    refine g_pu rfl rfl rfl (pu_move rfl rfl) ?_
    first | refine g_pu rfl rfl rfl (pu_len rfl rfl) ?_ | refine g_pu rfl rfl rfl (pu_lenS rfl rfl) ?_
    refine g_pu rfl rfl rfl (pu_remI rfl rfl rfl (by omega)) ?_
    refine g_pu rfl rfl rfl (pu_at1 k rfl rfl rfl (by rw [← hkk]; rfl) (by omega)) ?_
    refine g_pu rfl rfl rfl (pu_load 58 rfl rfl rfl (bs_load h1)) ?_
    refine g_pu rfl rfl rfl (pu_xor8 (b := 64#8) rfl rfl rfl) ?_
    refine g_pu rfl rfl rfl (pu_at1 k rfl rfl rfl (by rw [← hkk]; rfl) (by omega)) ?_
    refine g_store 58 (v := b8 (v ^^^ 64#8)) rfl rfl rfl rfl rfl rfl rfl (by rw [List.length_append, bs_length]; omega) ?_
    rw [Nat.zero_add, bs_set _ J k _ (by omega)]
    refine g_nil ?_
    refine g_own 58 (L := bs (((hmacL key T).take 16).set k (v ^^^ 64#8))) (J := J) (c := xc) (s := 1) rfl (by simp only [List.length_append, bs_length, List.length_set] at hJ ⊢; omega) hcap ?_
    (repeat refine g_seq ?_)
    refine g_region ?_
    refine g_pu rfl rfl rfl (pu_move rfl rfl) ?_
    refine g_pu rfl rfl rfl (pu_move rfl rfl) ?_
    refine g_call [] rfl rfl rfl rfl rfl rfl (fun w' hm => Fits_b w' x14.1 (L := padK key 54#8 ++ T) (ob := padK key 92#8) (tg := ((hmacL key T).take 16).set k (v ^^^ 64#8)) y x14.2.2 _ (hm.holds 14 _ rfl) (OwnO.rd (hm.holds 114 _ rfl)) (By.ow 214 rfl hm hpl2 (by omega)) (By.own 58 rfl hm (by omega) (by omega)) (by omega)) (fun _ _ => ?_)
    rw [hH, decide_eq_false hne]
    refine g_pu rfl rfl rfl (pu_not rfl rfl) ?_
    refine g_pu rfl rfl rfl (pu_move rfl rfl) ?_
    first | refine g_pass rfl rfl rfl ?_ | refine g_pu rfl rfl rfl (pu_move rfl rfl) ?_
    refine g_call [] rfl rfl rfl rfl rfl rfl (fun w' hm => TSum_b w' x14.1 (L := padK key 54#8 ++ T) (ob := padK key 92#8) y x14.2.2 (hm.holds 14 _ rfl) (OwnO.rd (hm.holds 114 _ rfl)) (By.ow 214 rfl hm hpl2 (by omega)) (by omega)) (fun _ _ => ?_)
    rw [hH]
    first | refine g_pass rfl rfl rfl ?_ | refine g_pu rfl rfl rfl (pu_move rfl rfl) ?_
    first | refine g_pass rfl rfl rfl ?_ | refine g_pu rfl rfl rfl (pu_move rfl rfl) ?_
    refine g_call [] rfl rfl rfl rfl rfl rfl (fun w' hm => RTag_b w' c _ (ha.m hm) (By.ow 90 rfl hm rfl (by omega)) (by omega) (by omega)) (fun _ _ => ?_)
    refine g_pu rfl rfl rfl (pu_eqlA_t rfl rfl rfl rfl (all_bs _) (by rw [bs_length, hhl])) ?_
    first | refine g_pu rfl rfl rfl (pu_pick_t rfl rfl rfl) ?_ | refine g_pu rfl rfl rfl (pu_pick_f rfl rfl rfl) ?_
    refine g_pu rfl rfl rfl (pu_assign rfl rfl) ?_
    refine g_nil ?_
    exact g_ret1 rfl rfl (fun w' hm => ⟨(), trivial, rfl, hm.grows [] trivial rfl⟩)
end Go.Sx

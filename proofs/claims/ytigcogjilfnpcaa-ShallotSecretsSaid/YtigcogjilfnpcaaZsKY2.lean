import Derived.Test.YtigcogjilfnpcaaZsKY1
import Derived.Test.YtigcogjilfnpcaaZsCCut
import Derived.Test.YtigcogjilfnpcaaZsXC
set_option linter.unusedVariables false
set_option linter.unusedSimpArgs false
/-
  The sender's schedule, of the program. The lists fit memory.
-/
namespace Go.Sx
open Go Go.Proofs

theorem SClone_b (w : World) {p : Option Addr} {n : Nat} (c : Nat) {l : List (BitVec 8)} (ha : By w p n l) :
    Spec Try.prog 115 #[.slice p n c] w (σ := Ow) (fun _ => True) (fun x => x.sl n) Nob (fun x => [x.ck 5 1 (bs l)]) := by
  refine enter Try.func115 rfl rfl (Mem.start w) ?_
  have hn := ha.len
  have hbig := ha.big
  (repeat refine g_seq ?_)
  refine g_region ?_
  refine g_pu rfl rfl rfl (pu_assign rfl rfl) ?_
  refine g_nil ?_
  cases p with
  | none =>
    have h0 := ha.nil0
    subst h0
    have hl0 : l = [] := List.eq_nil_of_length_eq_zero hn
    subst hl0
    (repeat refine g_seq ?_)
    refine g_region ?_
    refine g_pu rfl rfl rfl (pu_move rfl rfl) ?_
    refine g_pu rfl rfl rfl (pu_eqlN rfl rfl rfl) ?_
    refine g_nil ?_
    (repeat refine g_seq ?_)
    refine g_cond_t rfl ?_
    (repeat refine g_seq ?_)
    refine g_region ?_
    refine g_pu rfl rfl rfl (pu_assign rfl rfl) ?_
    refine g_nil ?_
    exact g_nilOwn 90 5 1 rfl (g_ret1 rfl rfl (fun w' hm => ⟨⟨none, 0⟩, trivial, rfl, hm.grows [90] ⟨rfl, trivial⟩ rfl⟩))
  | some a =>
    (repeat refine g_seq ?_)
    refine g_region ?_
    refine g_pu rfl rfl rfl (pu_move rfl rfl) ?_
    refine g_pu rfl rfl rfl (pu_eqlN rfl rfl rfl) ?_
    refine g_nil ?_
    (repeat refine g_seq ?_)
    refine g_cond_f rfl (g_skip ?_)
    (repeat refine g_seq ?_)
    refine g_region ?_
    refine g_lo [5] rfl rfl rfl rfl (lo_buildSlice0 rfl) (fun b5 hb5 => ?_)
    refine g_own 5 (L := []) (J := []) (c := 0) (s := 1) rfl (by simp) (by omega) ?_
    refine g_pu rfl rfl rfl (pu_move rfl rfl) ?_
    refine g_append1 5 (bs l) rfl rfl rfl rfl rfl rfl rfl rfl rfl (fun w' hm => (ha.m hm).rd) (by rw [bs_length, hn]) (oneCell_bs l) (by omega) (by omega) (fun p' c' => ?_)
    refine g_pu rfl rfl rfl (pu_assign rfl rfl) ?_
    refine g_nil ?_
    exact g_ret1 rfl rfl (fun w' hm => ⟨⟨p', c'⟩, trivial, by simp [Ow.sl], hm.grows [5] ⟨rfl, trivial⟩ rfl⟩)
theorem Bad32_b (w : World) {p : Option Addr} {n : Nat} (c : Nat) {l : List (BitVec 8)} (ha : By w p n l) : Spec Try.prog 113 #[.slice p n c] w (σ := Unit) (fun _ => True) (fun _ => .bool (l.length != 32)) Nob (fun _ => []) := by
  refine enter Try.func113 rfl rfl (Mem.start w) ?_
  have hn := ha.len
  by_cases h : n = 32
  · rw [show (l.length != 32) = false by rw [hn, h]; rfl]
    (repeat refine g_seq ?_)
    refine g_region ?_
    refine g_pu rfl rfl rfl (pu_assign rfl rfl) ?_
    refine g_nil ?_
    (repeat refine g_seq ?_)
    refine g_region ?_
    refine g_pu rfl rfl rfl (pu_move rfl rfl) ?_
    first | refine g_pu rfl rfl rfl (pu_len rfl rfl) ?_ | refine g_pu rfl rfl rfl (pu_lenS rfl rfl) ?_
    refine g_pu rfl rfl rfl (pu_neq_f rfl rfl rfl (by omega)) ?_
    refine g_pu rfl rfl rfl (pu_assign rfl rfl) ?_
    refine g_nil ?_
    exact g_ret1 rfl rfl (fun w' hm => ⟨(), trivial, rfl, hm.grows [] trivial rfl⟩)
  · rw [show (l.length != 32) = true by rw [hn]; exact bne_iff_ne.2 h]
    (repeat refine g_seq ?_)
    refine g_region ?_
    refine g_pu rfl rfl rfl (pu_assign rfl rfl) ?_
    refine g_nil ?_
    (repeat refine g_seq ?_)
    refine g_region ?_
    refine g_pu rfl rfl rfl (pu_move rfl rfl) ?_
    first | refine g_pu rfl rfl rfl (pu_len rfl rfl) ?_ | refine g_pu rfl rfl rfl (pu_lenS rfl rfl) ?_
    refine g_pu rfl rfl rfl (pu_neq_t rfl rfl rfl (by omega)) ?_
    refine g_pu rfl rfl rfl (pu_assign rfl rfl) ?_
    refine g_nil ?_
    exact g_ret1 rfl rfl (fun w' hm => ⟨(), trivial, rfl, hm.grows [] trivial rfl⟩)
theorem IndexFunc_b (w : World) {q : Option Addr} {m : Nat} (d : Nat) {L : List Value} {ls : List (List (BitVec 8))} {f : FuncId} {pr : List (BitVec 8) → Bool} (hcal : Callable Try.prog f)
    (hf : ∀ (w' : World) (p : Option Addr) (n c : Nat) (l : List (BitVec 8)), By w' p n l → Spec Try.prog f #[.slice p n c] w' (σ := Unit) (fun _ => True) (fun _ => .bool (pr l)) Nob (fun _ => []))
    (ha : ByL w q m L ls) : Spec Try.prog 140 #[.slice q m d, fv f] w (σ := Int) (fun z => (0 ≤ z ↔ ls.any pr = true)) (fun z => .int .i64 z) Nob (fun _ => []) := by
  refine enter Try.func140 rfl rfl (Mem.start w) ?_
  have hLn := ha.len
  have hbig := ha.big
  have hln := ha.lenL
  (repeat refine g_seq ?_)
  refine g_region ?_
  refine g_pu rfl rfl rfl (pu_assign rfl rfl) ?_
  refine g_nil ?_
  (repeat refine g_seq ?_)
  refine g_region ?_
  refine g_pu rfl rfl rfl (pu_move rfl rfl) ?_
  first | refine g_pu rfl rfl rfl (pu_len rfl rfl) ?_ | refine g_pu rfl rfl rfl (pu_lenS rfl rfl) ?_
  refine g_pu rfl rfl rfl (pu_move rfl rfl) ?_
  refine g_nil ?_
  (repeat refine g_seq ?_)
  refine g_block (g_loop (σ := Nat) (fun i => [(0, .slice q m d), (1, fv f), (7, .int .i64 (m : Int)), (8, .int .i64 (i : Int))]) (fun _ => []) (fun i => i ≤ m ∧ (ls.take i).any pr = false) (fun i => m - i) 0 ⟨rfl, rfl, rfl, rfl, trivial⟩ trivial ⟨by omega, rfl⟩ ?_)
  intro i ⟨hi, hno⟩
  by_cases hlt : i < m
  · (repeat refine g_seq ?_)
    refine g_region ?_
    first | refine g_pu rfl rfl rfl (pu_lss_t rfl rfl rfl (by omega)) ?_ | refine g_pu rfl rfl rfl (pu_lss_f rfl rfl rfl (by omega)) ?_ | refine g_pu rfl rfl rfl (pu_lss rfl rfl rfl) ?_
    refine g_nil ?_
    (repeat refine g_seq ?_)
    refine g_cond_t rfl (g_skip ?_)
    have hl : ls[i]? = some ls[i] := List.getElem?_eq_getElem (by omega)
    have hmem := List.getElem_mem (l := ls) (n := i) (by omega)
    generalize ls[i] = l at hl hmem
    obtain ⟨kq, km, kc, hL, hkq⟩ := ha.at hl
    have ht : (ls.take (i + 1)).any pr = pr l := by rw [List.take_add_one, hl, List.any_append, hno]; simp
    (repeat refine g_seq ?_); refine g_block ?_
    (repeat refine g_seq ?_)
    refine g_region ?_
    refine g_pu rfl rfl rfl (pu_move rfl rfl) ?_
    refine g_pu rfl rfl rfl (pu_assign rfl rfl) ?_
    refine g_nil ?_
    cases hp : pr l with
    | true =>
      (repeat refine g_seq ?_)
      refine g_region ?_
      refine g_pu rfl rfl rfl (pu_move rfl rfl) ?_
      refine g_pu rfl rfl rfl (pu_move rfl rfl) ?_
      refine g_pu rfl rfl rfl (pu_move rfl rfl) ?_
      refine g_pu rfl rfl rfl (pu_atM1 i (fun w' hm => (ha.m hm).rd) rfl rfl rfl rfl hlt (by omega)) ?_
      refine g_pu rfl rfl rfl (pu_rdM (fun w' hm => (ha.m hm).rd) rfl rfl hL) ?_
      refine g_callV [] rfl rfl rfl rfl hcal rfl rfl rfl (fun w' hm => hf w' kq km kc l (hkq.m hm)) (fun _ _ => ?_)
      rw [hp]
      refine g_nil ?_
      (repeat refine g_seq ?_)
      refine g_cond_t rfl ?_
      (repeat refine g_seq ?_)
      refine g_region ?_
      refine g_pu rfl rfl rfl (pu_move rfl rfl) ?_
      refine g_pu rfl rfl rfl (pu_assign rfl rfl) ?_
      refine g_nil ?_
      exact g_ret1 rfl rfl (fun w' hm => ⟨(i : Int), ⟨fun _ => List.any_eq_true.2 ⟨l, hmem, hp⟩, fun _ => by omega⟩, rfl, hm.grows [] trivial rfl⟩)
    | false =>
      (repeat refine g_seq ?_)
      refine g_region ?_
      refine g_pu rfl rfl rfl (pu_move rfl rfl) ?_
      refine g_pu rfl rfl rfl (pu_move rfl rfl) ?_
      refine g_pu rfl rfl rfl (pu_move rfl rfl) ?_
      refine g_pu rfl rfl rfl (pu_atM1 i (fun w' hm => (ha.m hm).rd) rfl rfl rfl rfl hlt (by omega)) ?_
      refine g_pu rfl rfl rfl (pu_rdM (fun w' hm => (ha.m hm).rd) rfl rfl hL) ?_
      refine g_callV [] rfl rfl rfl rfl hcal rfl rfl rfl (fun w' hm => hf w' kq km kc l (hkq.m hm)) (fun _ _ => ?_)
      rw [hp]
      refine g_nil ?_
      (repeat refine g_seq ?_)
      refine g_cond_f rfl (g_skip ?_)
      refine g_blk ?_
      (repeat refine g_seq ?_)
      refine g_region ?_
      refine g_pu rfl rfl rfl (pu_addI rfl rfl rfl (by omega)) ?_
      refine g_pu rfl rfl rfl (pu_move rfl rfl) ?_
      refine g_nil ?_
      exact g_round (i + 1) ⟨by omega, by rw [ht, hp]⟩ (by omega) ⟨rfl, rfl, rfl, rfl, trivial⟩ trivial
  · (repeat refine g_seq ?_)
    refine g_region ?_
    first | refine g_pu rfl rfl rfl (pu_lss_t rfl rfl rfl (by omega)) ?_ | refine g_pu rfl rfl rfl (pu_lss_f rfl rfl rfl (by omega)) ?_ | refine g_pu rfl rfl rfl (pu_lss rfl rfl rfl) ?_
    refine g_nil ?_
    (repeat refine g_seq ?_)
    refine g_cond_f rfl (g_exit rfl ?_)
    rw [List.take_of_length_le (by omega)] at hno
    (repeat refine g_seq ?_)
    refine g_region ?_
    refine g_pu rfl rfl rfl (pu_assign rfl rfl) ?_
    refine g_nil ?_
    exact g_ret1 rfl rfl (fun w' hm => ⟨-1, ⟨fun h => by omega, fun h => by rw [hno] at h; cases h⟩, rfl, hm.grows [] trivial rfl⟩)
theorem ContainsFunc_b (w : World) {q : Option Addr} {m : Nat} (d : Nat) {L : List Value} {ls : List (List (BitVec 8))} {f : FuncId} {pr : List (BitVec 8) → Bool} (hcal : Callable Try.prog f)
    (hf : ∀ (w' : World) (p : Option Addr) (n c : Nat) (l : List (BitVec 8)), By w' p n l → Spec Try.prog f #[.slice p n c] w' (σ := Unit) (fun _ => True) (fun _ => .bool (pr l)) Nob (fun _ => []))
    (ha : ByL w q m L ls) : Spec Try.prog 112 #[.slice q m d, fv f] w (σ := Unit) (fun _ => True) (fun _ => .bool (ls.any pr)) Nob (fun _ => []) := by
  refine enter Try.func112 rfl rfl (Mem.start w) ?_
  (repeat refine g_seq ?_)
  refine g_region ?_
  refine g_pu rfl rfl rfl (pu_assign rfl rfl) ?_
  refine g_nil ?_
  cases hp : ls.any pr with
  | true =>
    (repeat refine g_seq ?_)
    refine g_region ?_
    refine g_pu rfl rfl rfl (pu_move rfl rfl) ?_
    refine g_pu rfl rfl rfl (pu_move rfl rfl) ?_
    refine g_call [] rfl rfl rfl rfl rfl rfl (fun w' hm => IndexFunc_b w' d hcal hf (ha.m hm)) (fun z hz => ?_)
    refine g_pu rfl rfl rfl (pu_geq_t rfl rfl rfl (hz.2 hp)) ?_
    refine g_pu rfl rfl rfl (pu_assign rfl rfl) ?_
    refine g_nil ?_
    exact g_ret1 rfl rfl (fun w' hm => ⟨(), trivial, rfl, hm.grows [] trivial rfl⟩)
  | false =>
    (repeat refine g_seq ?_)
    refine g_region ?_
    refine g_pu rfl rfl rfl (pu_move rfl rfl) ?_
    refine g_pu rfl rfl rfl (pu_move rfl rfl) ?_
    refine g_call [] rfl rfl rfl rfl rfl rfl (fun w' hm => IndexFunc_b w' d hcal hf (ha.m hm)) (fun z hz => ?_)
    refine g_pu rfl rfl rfl (pu_geq_f rfl rfl rfl (fun h => by have := hz.1 h; rw [hp] at this; cases this)) ?_
    refine g_pu rfl rfl rfl (pu_assign rfl rfl) ?_
    refine g_nil ?_
    exact g_ret1 rfl rfl (fun w' hm => ⟨(), trivial, rfl, hm.grows [] trivial rfl⟩)

/-- A hop's public value and secret. -/
abbrev HopS := List (BitVec 8) × List (BitVec 8)
def stepsL (l : List HopS) : List (BitVec 8) := (l.map fun h => stL' h.1 h.2).flatten
def comb (acc : List HopS) (r : Int × List HopS) : Int × List HopS := if r.1 = 0 then (0, acc ++ r.2) else (r.1, [])
def schR : List (List (BitVec 8)) → List (BitVec 8) → Int → List (List (BitVec 8)) → Int × List HopS
  | [], _, _, _ => (0, [])
  | pub :: r, al, e, sc => if e = 0 then (if (chP pub sc).2 = 0 then comb [(al, (chP pub sc).1)] (schR r (if r = [] then al else xmV (kBlind (chP pub sc).1) al) (if r = [] then 0 else xmE (kBlind (chP pub sc).1) al) (sc ++ [kBlind (chP pub sc).1])) else ((chP pub sc).2, [])) else (e, [])
def bad32 (ls : List (List (BitVec 8))) : Bool := ls.any fun l => l.length != 32
def okS (k : List (BitVec 8)) (pubs : List (List (BitVec 8))) : Bool := (k.length == 32) && Nat.ble 1 pubs.length && Nat.ble pubs.length 5 && !bad32 pubs
def schP (k : List (BitVec 8)) (pubs : List (List (BitVec 8))) : Int × List HopS := if okS k pubs = true then schR pubs (xmV k nine) (xmE k nine) [k] else (2, [])
theorem comb_nil (r : Int × List HopS) (h : r.1 = 0 ∨ r.2 = []) : comb [] r = r := by
  obtain ⟨a, b⟩ := r
  unfold comb
  split
  · rename_i h0; simp only at h0; subst h0; rfl
  · rename_i h0
    rcases h with h1 | h1
    · exact absurd h1 h0
    · simp only at h1; rw [h1]
theorem comb_shape (a : List HopS) (r : Int × List HopS) : (comb a r).1 = 0 ∨ (comb a r).2 = [] := by
  unfold comb
  split
  · exact .inl rfl
  · exact .inr rfl
theorem comb_comb (a b : List HopS) (r : Int × List HopS) : comb a (comb b r) = comb (a ++ b) r := by
  by_cases h : r.1 = 0
  · simp [comb, h]
  · simp [comb, h]
theorem schR_shape (pubs : List (List (BitVec 8))) (al : List (BitVec 8)) (e : Int) (sc : List (List (BitVec 8))) : (schR pubs al e sc).1 = 0 ∨ (schR pubs al e sc).2 = [] := by
  cases pubs with
  | nil => exact .inl rfl
  | cons pub r =>
    unfold schR
    split
    · split
      · exact comb_shape _ _
      · exact .inr rfl
    · exact .inr rfl
theorem comb_ne {a : List HopS} {e : Int} (h : ¬ e = 0) : comb a (e, []) = (e, []) := if_neg h
theorem stepsL_length : ∀ {l : List HopS}, (∀ h ∈ l, h.1.length = 32 ∧ h.2.length = 32) → (stepsL l).length = l.length * 192
  | [], _ => rfl
  | h :: r, ho => by
    have ih := stepsL_length (l := r) fun x hx => ho x (List.mem_cons_of_mem _ hx)
    have h1 := ho h (by simp)
    unfold stepsL at ih ⊢
    rw [List.map_cons, List.flatten_cons, List.length_append, ih, stL'_length h1.1 h1.2, List.length_cons]; omega
theorem stepsL_snoc (l : List HopS) (h : HopS) : stepsL (l ++ [h]) = stepsL l ++ stL' h.1 h.2 := by simp [stepsL]
theorem okS_iff (k : List (BitVec 8)) (pubs : List (List (BitVec 8))) : okS k pubs = true ↔ k.length = 32 ∧ 1 ≤ pubs.length ∧ pubs.length ≤ 5 ∧ bad32 pubs = false := by
  unfold okS
  simp only [Bool.and_eq_true, beq_iff_eq, Nat.ble_eq, Bool.not_eq_true', and_assoc]

theorem Schedule_b (w : World) {p q : Option Addr} {n m : Nat} (c d : Nat) {k : List (BitVec 8)} {L : List Value} {pubs : List (List (BitVec 8))} (hk : By w p n k) (ha : ByL w q m L pubs) :
    Spec Try.prog 68 #[.slice p n c, .slice q m d] w (σ := Ow) (fun _ => True) (fun x => .tuple #[x.sl (schP k pubs).2.length, .int .i64 (schP k pubs).1]) Nob (fun x => [x.ck 153 192 (bs (stepsL (schP k pubs).2))]) := by
  refine enter Try.func68 rfl rfl (Mem.start w) ?_
  have hkl := hk.len
  have hLn := ha.len
  have hbig := ha.big
  have hln := ha.lenL
  have hbad : ¬ okS k pubs = true → schP k pubs = (2, []) := fun h => if_neg h
  (repeat refine g_seq ?_)
  refine g_region ?_
  refine g_pu rfl rfl rfl (pu_assign rfl rfl) ?_
  refine g_pu rfl rfl rfl (pu_assign rfl rfl) ?_
  refine g_nil ?_
  by_cases hn32 : n = 32
  · by_cases hm1 : m < 1
    · rw [hbad (fun h => by have := (okS_iff _ _).1 h; omega)]
      (repeat refine g_seq ?_)
      refine g_region ?_
      refine g_pu rfl rfl rfl (pu_move rfl rfl) ?_
      first | refine g_pu rfl rfl rfl (pu_len rfl rfl) ?_ | refine g_pu rfl rfl rfl (pu_lenS rfl rfl) ?_
      first | refine g_pu rfl rfl rfl (pu_neq_t rfl rfl rfl (by omega)) ?_ | refine g_pu rfl rfl rfl (pu_neq_f rfl rfl rfl (by omega)) ?_ | refine g_pu rfl rfl rfl (pu_neq rfl rfl rfl) ?_
      refine g_pu rfl rfl rfl (pu_move rfl rfl) ?_
      first | refine g_pass rfl rfl rfl ?_ | refine g_pu rfl rfl rfl (pu_move rfl rfl) ?_
      first | refine g_pass rfl rfl rfl ?_ | refine g_pu rfl rfl rfl (pu_len rfl rfl) ?_ | refine g_pu rfl rfl rfl (pu_lenS rfl rfl) ?_
      first | refine g_pass rfl rfl rfl ?_ | refine g_pu rfl rfl rfl (pu_lss_t rfl rfl rfl (by omega)) ?_ | refine g_pu rfl rfl rfl (pu_lss_f rfl rfl rfl (by omega)) ?_ | refine g_pu rfl rfl rfl (pu_lss rfl rfl rfl) ?_
      first | refine g_pu rfl rfl rfl (pu_pick_t rfl rfl rfl) ?_ | refine g_pu rfl rfl rfl (pu_pick_f rfl rfl rfl) ?_
      refine g_pu rfl rfl rfl (pu_move rfl rfl) ?_
      first | refine g_pass rfl rfl rfl ?_ | refine g_pu rfl rfl rfl (pu_move rfl rfl) ?_
      first | refine g_pass rfl rfl rfl ?_ | refine g_pu rfl rfl rfl (pu_len rfl rfl) ?_ | refine g_pu rfl rfl rfl (pu_lenS rfl rfl) ?_
      first | refine g_pass rfl rfl rfl ?_ | refine g_pu rfl rfl rfl (pu_gtr_t rfl rfl rfl (by omega)) ?_ | refine g_pu rfl rfl rfl (pu_gtr_f rfl rfl rfl (by omega)) ?_ | refine g_pu rfl rfl rfl (pu_gtr rfl rfl rfl) ?_
      first | refine g_pu rfl rfl rfl (pu_pick_t rfl rfl rfl) ?_ | refine g_pu rfl rfl rfl (pu_pick_f rfl rfl rfl) ?_
      refine g_pu rfl rfl rfl (pu_move rfl rfl) ?_
      first | refine g_pass rfl rfl rfl ?_ | refine g_pu rfl rfl rfl (pu_move rfl rfl) ?_
      refine g_pass rfl rfl rfl ?_
      first | refine g_pu rfl rfl rfl (pu_pick_t rfl rfl rfl) ?_ | refine g_pu rfl rfl rfl (pu_pick_f rfl rfl rfl) ?_
      refine g_nil ?_
      (repeat refine g_seq ?_)
      refine g_cond_t rfl ?_
      (repeat refine g_seq ?_)
      refine g_region ?_
      refine g_pu rfl rfl rfl (pu_assign rfl rfl) ?_
      refine g_pu rfl rfl rfl (pu_assign rfl rfl) ?_
      refine g_nil ?_
      refine g_nilOwn 90 153 192 rfl ?_
      exact g_ret2 rfl rfl rfl (fun w' hm => ⟨⟨none, 0⟩, trivial, rfl, hm.grows [90] ⟨rfl, trivial⟩ rfl⟩)
    · by_cases hm5 : m > 5
      · rw [hbad (fun h => by have := (okS_iff _ _).1 h; omega)]
        (repeat refine g_seq ?_)
        refine g_region ?_
        refine g_pu rfl rfl rfl (pu_move rfl rfl) ?_
        first | refine g_pu rfl rfl rfl (pu_len rfl rfl) ?_ | refine g_pu rfl rfl rfl (pu_lenS rfl rfl) ?_
        first | refine g_pu rfl rfl rfl (pu_neq_t rfl rfl rfl (by omega)) ?_ | refine g_pu rfl rfl rfl (pu_neq_f rfl rfl rfl (by omega)) ?_ | refine g_pu rfl rfl rfl (pu_neq rfl rfl rfl) ?_
        refine g_pu rfl rfl rfl (pu_move rfl rfl) ?_
        first | refine g_pass rfl rfl rfl ?_ | refine g_pu rfl rfl rfl (pu_move rfl rfl) ?_
        first | refine g_pass rfl rfl rfl ?_ | refine g_pu rfl rfl rfl (pu_len rfl rfl) ?_ | refine g_pu rfl rfl rfl (pu_lenS rfl rfl) ?_
        first | refine g_pass rfl rfl rfl ?_ | refine g_pu rfl rfl rfl (pu_lss_t rfl rfl rfl (by omega)) ?_ | refine g_pu rfl rfl rfl (pu_lss_f rfl rfl rfl (by omega)) ?_ | refine g_pu rfl rfl rfl (pu_lss rfl rfl rfl) ?_
        first | refine g_pu rfl rfl rfl (pu_pick_t rfl rfl rfl) ?_ | refine g_pu rfl rfl rfl (pu_pick_f rfl rfl rfl) ?_
        refine g_pu rfl rfl rfl (pu_move rfl rfl) ?_
        first | refine g_pass rfl rfl rfl ?_ | refine g_pu rfl rfl rfl (pu_move rfl rfl) ?_
        first | refine g_pass rfl rfl rfl ?_ | refine g_pu rfl rfl rfl (pu_len rfl rfl) ?_ | refine g_pu rfl rfl rfl (pu_lenS rfl rfl) ?_
        first | refine g_pass rfl rfl rfl ?_ | refine g_pu rfl rfl rfl (pu_gtr_t rfl rfl rfl (by omega)) ?_ | refine g_pu rfl rfl rfl (pu_gtr_f rfl rfl rfl (by omega)) ?_ | refine g_pu rfl rfl rfl (pu_gtr rfl rfl rfl) ?_
        first | refine g_pu rfl rfl rfl (pu_pick_t rfl rfl rfl) ?_ | refine g_pu rfl rfl rfl (pu_pick_f rfl rfl rfl) ?_
        refine g_pu rfl rfl rfl (pu_move rfl rfl) ?_
        first | refine g_pass rfl rfl rfl ?_ | refine g_pu rfl rfl rfl (pu_move rfl rfl) ?_
        refine g_pass rfl rfl rfl ?_
        first | refine g_pu rfl rfl rfl (pu_pick_t rfl rfl rfl) ?_ | refine g_pu rfl rfl rfl (pu_pick_f rfl rfl rfl) ?_
        refine g_nil ?_
        (repeat refine g_seq ?_)
        refine g_cond_t rfl ?_
        (repeat refine g_seq ?_)
        refine g_region ?_
        refine g_pu rfl rfl rfl (pu_assign rfl rfl) ?_
        refine g_pu rfl rfl rfl (pu_assign rfl rfl) ?_
        refine g_nil ?_
        refine g_nilOwn 90 153 192 rfl ?_
        exact g_ret2 rfl rfl rfl (fun w' hm => ⟨⟨none, 0⟩, trivial, rfl, hm.grows [90] ⟨rfl, trivial⟩ rfl⟩)
      · cases hb : bad32 pubs with
        | true =>
          rw [hbad (fun h => by have := (okS_iff _ _).1 h; rw [hb] at this; exact absurd this.2.2.2 (by decide))]
          (repeat refine g_seq ?_)
          refine g_region ?_
          refine g_pu rfl rfl rfl (pu_move rfl rfl) ?_
          first | refine g_pu rfl rfl rfl (pu_len rfl rfl) ?_ | refine g_pu rfl rfl rfl (pu_lenS rfl rfl) ?_
          first | refine g_pu rfl rfl rfl (pu_neq_t rfl rfl rfl (by omega)) ?_ | refine g_pu rfl rfl rfl (pu_neq_f rfl rfl rfl (by omega)) ?_ | refine g_pu rfl rfl rfl (pu_neq rfl rfl rfl) ?_
          refine g_pu rfl rfl rfl (pu_move rfl rfl) ?_
          first | refine g_pass rfl rfl rfl ?_ | refine g_pu rfl rfl rfl (pu_move rfl rfl) ?_
          first | refine g_pass rfl rfl rfl ?_ | refine g_pu rfl rfl rfl (pu_len rfl rfl) ?_ | refine g_pu rfl rfl rfl (pu_lenS rfl rfl) ?_
          first | refine g_pass rfl rfl rfl ?_ | refine g_pu rfl rfl rfl (pu_lss_t rfl rfl rfl (by omega)) ?_ | refine g_pu rfl rfl rfl (pu_lss_f rfl rfl rfl (by omega)) ?_ | refine g_pu rfl rfl rfl (pu_lss rfl rfl rfl) ?_
          first | refine g_pu rfl rfl rfl (pu_pick_t rfl rfl rfl) ?_ | refine g_pu rfl rfl rfl (pu_pick_f rfl rfl rfl) ?_
          refine g_pu rfl rfl rfl (pu_move rfl rfl) ?_
          first | refine g_pass rfl rfl rfl ?_ | refine g_pu rfl rfl rfl (pu_move rfl rfl) ?_
          first | refine g_pass rfl rfl rfl ?_ | refine g_pu rfl rfl rfl (pu_len rfl rfl) ?_ | refine g_pu rfl rfl rfl (pu_lenS rfl rfl) ?_
          first | refine g_pass rfl rfl rfl ?_ | refine g_pu rfl rfl rfl (pu_gtr_t rfl rfl rfl (by omega)) ?_ | refine g_pu rfl rfl rfl (pu_gtr_f rfl rfl rfl (by omega)) ?_ | refine g_pu rfl rfl rfl (pu_gtr rfl rfl rfl) ?_
          first | refine g_pu rfl rfl rfl (pu_pick_t rfl rfl rfl) ?_ | refine g_pu rfl rfl rfl (pu_pick_f rfl rfl rfl) ?_
          refine g_pu rfl rfl rfl (pu_move rfl rfl) ?_
          first | refine g_pass rfl rfl rfl ?_ | refine g_pu rfl rfl rfl (pu_move rfl rfl) ?_
          refine g_call [] rfl rfl rfl rfl rfl rfl (fun w' hm => ContainsFunc_b w' d (pr := fun l => l.length != 32) Cal.h (fun w' p n c l h => Bad32_b w' c h) (ha.m hm)) (fun _ _ => ?_)
          rw [show (pubs.any fun l => l.length != 32) = true from hb]
          first | refine g_pu rfl rfl rfl (pu_pick_t rfl rfl rfl) ?_ | refine g_pu rfl rfl rfl (pu_pick_f rfl rfl rfl) ?_
          refine g_nil ?_
          (repeat refine g_seq ?_)
          refine g_cond_t rfl ?_
          (repeat refine g_seq ?_)
          refine g_region ?_
          refine g_pu rfl rfl rfl (pu_assign rfl rfl) ?_
          refine g_pu rfl rfl rfl (pu_assign rfl rfl) ?_
          refine g_nil ?_
          refine g_nilOwn 90 153 192 rfl ?_
          exact g_ret2 rfl rfl rfl (fun w' hm => ⟨⟨none, 0⟩, trivial, rfl, hm.grows [90] ⟨rfl, trivial⟩ rfl⟩)
        | false =>
          have hT : schP k pubs = schR pubs (xmV k nine) (xmE k nine) [k] := if_pos ((okS_iff _ _).2 ⟨by omega, by omega, by omega, hb⟩)
          rw [hT]
          generalize hTT : schR pubs (xmV k nine) (xmE k nine) [k] = T
          have hvl := xmV_length k nine
          have hvb : (bs (xmV k nine)).length = 32 := by rw [bs_length, hvl]
          subst hn32
          (repeat refine g_seq ?_)
          refine g_region ?_
          refine g_pu rfl rfl rfl (pu_move rfl rfl) ?_
          first | refine g_pu rfl rfl rfl (pu_len rfl rfl) ?_ | refine g_pu rfl rfl rfl (pu_lenS rfl rfl) ?_
          first | refine g_pu rfl rfl rfl (pu_neq_t rfl rfl rfl (by omega)) ?_ | refine g_pu rfl rfl rfl (pu_neq_f rfl rfl rfl (by omega)) ?_ | refine g_pu rfl rfl rfl (pu_neq rfl rfl rfl) ?_
          refine g_pu rfl rfl rfl (pu_move rfl rfl) ?_
          first | refine g_pass rfl rfl rfl ?_ | refine g_pu rfl rfl rfl (pu_move rfl rfl) ?_
          first | refine g_pass rfl rfl rfl ?_ | refine g_pu rfl rfl rfl (pu_len rfl rfl) ?_ | refine g_pu rfl rfl rfl (pu_lenS rfl rfl) ?_
          first | refine g_pass rfl rfl rfl ?_ | refine g_pu rfl rfl rfl (pu_lss_t rfl rfl rfl (by omega)) ?_ | refine g_pu rfl rfl rfl (pu_lss_f rfl rfl rfl (by omega)) ?_ | refine g_pu rfl rfl rfl (pu_lss rfl rfl rfl) ?_
          first | refine g_pu rfl rfl rfl (pu_pick_t rfl rfl rfl) ?_ | refine g_pu rfl rfl rfl (pu_pick_f rfl rfl rfl) ?_
          refine g_pu rfl rfl rfl (pu_move rfl rfl) ?_
          first | refine g_pass rfl rfl rfl ?_ | refine g_pu rfl rfl rfl (pu_move rfl rfl) ?_
          first | refine g_pass rfl rfl rfl ?_ | refine g_pu rfl rfl rfl (pu_len rfl rfl) ?_ | refine g_pu rfl rfl rfl (pu_lenS rfl rfl) ?_
          first | refine g_pass rfl rfl rfl ?_ | refine g_pu rfl rfl rfl (pu_gtr_t rfl rfl rfl (by omega)) ?_ | refine g_pu rfl rfl rfl (pu_gtr_f rfl rfl rfl (by omega)) ?_ | refine g_pu rfl rfl rfl (pu_gtr rfl rfl rfl) ?_
          first | refine g_pu rfl rfl rfl (pu_pick_t rfl rfl rfl) ?_ | refine g_pu rfl rfl rfl (pu_pick_f rfl rfl rfl) ?_
          refine g_pu rfl rfl rfl (pu_move rfl rfl) ?_
          first | refine g_pass rfl rfl rfl ?_ | refine g_pu rfl rfl rfl (pu_move rfl rfl) ?_
          refine g_call [] rfl rfl rfl rfl rfl rfl (fun w' hm => ContainsFunc_b w' d (pr := fun l => l.length != 32) Cal.h (fun w' p n c l h => Bad32_b w' c h) (ha.m hm)) (fun _ _ => ?_)
          rw [show (pubs.any fun l => l.length != 32) = false from hb]
          first | refine g_pu rfl rfl rfl (pu_pick_t rfl rfl rfl) ?_ | refine g_pu rfl rfl rfl (pu_pick_f rfl rfl rfl) ?_
          refine g_nil ?_
          (repeat refine g_seq ?_)
          refine g_cond_f rfl (g_skip ?_)
          (repeat refine g_seq ?_)
          refine g_region ?_
          refine g_pu rfl rfl rfl (pu_move rfl rfl) ?_
          refine g_call [] rfl rfl rfl rfl rfl rfl (fun w' hm => Public_b w' c (hk.m hm)) (fun _ _ => ?_)
          refine g_pu rfl rfl rfl (pu_move rfl rfl) ?_
          refine g_pu rfl rfl rfl (pu_extract rfl rfl rfl) ?_
          refine g_pu rfl rfl rfl (pu_extract rfl rfl rfl) ?_
          refine g_lo [6] rfl rfl rfl rfl (lo_alloc rfl) (fun b6 hb6 => ?_)
          refine g_storeL 6 (s := 32) (C := bs (xmV k nine)) rfl rfl rfl rfl rfl rfl hvb rfl (oneCell_bs _) ?_
          refine g_pu rfl rfl rfl (pu_assign rfl rfl) ?_
          refine g_nil ?_
          (repeat refine g_seq ?_)
          refine g_region ?_
          refine g_pu rfl rfl rfl (pu_move rfl rfl) ?_
          refine g_lo [38] rfl rfl rfl rfl (lo_buildSlice rfl rfl (by decide) (by decide) rfl rfl) (fun b38 hb38 => ?_)
          refine g_own 38 (L := [.slice p 32 c]) (J := []) (c := 1) (s := 1) rfl (by simp) (by omega) ?_
          refine g_pu rfl rfl rfl (pu_assign rfl rfl) ?_
          refine g_nil ?_
          (repeat refine g_seq ?_)
          refine g_region ?_
          refine g_pu rfl rfl rfl (pu_assign rfl rfl) ?_
          refine g_nil ?_
          refine g_nilOwn 90 153 192 rfl (g_noBag 91 5 rfl ?_)
          (repeat refine g_seq ?_)
          refine g_region ?_
          refine g_pu rfl rfl rfl (pu_move rfl rfl) ?_
          first | refine g_pu rfl rfl rfl (pu_len rfl rfl) ?_ | refine g_pu rfl rfl rfl (pu_lenS rfl rfl) ?_
          refine g_pu rfl rfl rfl (pu_move rfl rfl) ?_
          refine g_nil ?_
          (repeat refine g_seq ?_)
          refine g_block (g_loop3 (fun (i : Nat) (l : List (BitVec 8) × Int × List HopS) (y : Ow × List Otm × Ow) => [(1, .slice q m d), (6, .pointer (some ⟨b6, 0, none⟩)), (7, .int .i64 l.2.1), (8, y.1.sl (i + 1)), (9, y.2.2.sl i), (39, .slice q m d), (40, .int .i64 (m : Int)), (41, .int .i64 (i : Int))])
            (fun i l y => [(6, .pt b6 (.cells (bs l.1).toArray 24 (0, 0))), (38, y.1.ck 26 1 (.slice p 32 c :: vals y.2.1)), (91, .fact (BSC y.2.1) (BagC 5 y.2.1)), (90, y.2.2.ck 153 192 (bs (stepsL l.2.2)))])
            (fun i l y => i ≤ m ∧ l.1.length = 32 ∧ y.2.1.length = i ∧ l.2.2.length = i ∧ (∀ x ∈ y.2.1, x.2.length = 32) ∧ (∀ h ∈ l.2.2, h.1.length = 32 ∧ h.2.length = 32) ∧ comb l.2.2 (schR (pubs.drop i) l.1 l.2.1 (k :: conts y.2.1)) = T) (fun i _ _ => m - i) 0 (xmV k nine, xmE k nine, []) (⟨some ⟨b38, 0, none⟩, 1⟩, [], ⟨none, 0⟩) ⟨rfl, rfl, rfl, rfl, rfl, rfl, rfl, rfl, trivial⟩ ⟨rfl, rfl, rfl, rfl, trivial⟩ ⟨by omega, hvl, rfl, rfl, fun _ h => by simp at h, fun _ h => by simp at h, by
              rw [← hTT, List.drop_zero]
              show comb [] (schR pubs (xmV k nine) (xmE k nine) [k]) = _
              exact comb_nil _ (schR_shape _ _ _ _)⟩ ?_)
          rintro i ⟨al, e, acc⟩ ⟨ys, cl, xs⟩ ⟨hi, hal, hcl, hac, hc32, hh32, hT⟩
          dsimp only at hal hcl hac hc32 hh32 hT ⊢
          by_cases hlt : i < m
          · (repeat refine g_seq ?_)
            refine g_region ?_
            first | refine g_pu rfl rfl rfl (pu_lss_t rfl rfl rfl (by omega)) ?_ | refine g_pu rfl rfl rfl (pu_lss_f rfl rfl rfl (by omega)) ?_ | refine g_pu rfl rfl rfl (pu_lss rfl rfl rfl) ?_
            refine g_nil ?_
            (repeat refine g_seq ?_)
            refine g_cond_t rfl (g_skip ?_)
            have hpb : pubs[i]? = some pubs[i] := List.getElem?_eq_getElem (by omega)
            have hdr : pubs.drop i = pubs[i] :: pubs.drop (i + 1) := List.drop_eq_getElem_cons (by omega)
            generalize pubs[i] = pub at hpb hdr
            obtain ⟨kq, km, kc, hL, hkq⟩ := ha.at hpb
            rw [hdr] at hT
            unfold schR at hT
            (repeat refine g_seq ?_); refine g_block ?_
            (repeat refine g_seq ?_)
            refine g_region ?_
            refine g_pu rfl rfl rfl (pu_atM1 i (fun w' hm => (ha.m hm).rd) rfl rfl rfl rfl hlt (by omega)) ?_
            refine g_pu rfl rfl rfl (pu_rdM (fun w' hm => (ha.m hm).rd) rfl rfl hL) ?_
            refine g_pu rfl rfl rfl (pu_assign rfl rfl) ?_
            refine g_nil ?_
            by_cases he : e = 0
            · subst he
              rw [if_pos rfl] at hT
              (repeat refine g_seq ?_)
              refine g_region ?_
              refine g_pu rfl rfl rfl (pu_move rfl rfl) ?_
              first | refine g_pu rfl rfl rfl (pu_neq_t rfl rfl rfl (by omega)) ?_ | refine g_pu rfl rfl rfl (pu_neq_f rfl rfl rfl (by omega)) ?_ | refine g_pu rfl rfl rfl (pu_neq rfl rfl rfl) ?_
              refine g_nil ?_
              (repeat refine g_seq ?_)
              refine g_cond_f rfl (g_skip ?_)
              have hchl := chP_length pub (k :: conts cl)
              have hchb : (bs (chP pub (k :: conts cl)).1).length = 32 := by rw [bs_length, hchl]
              (repeat refine g_seq ?_)
              refine g_region ?_
              refine g_pu rfl rfl rfl (pu_move rfl rfl) ?_
              refine g_pu rfl rfl rfl (pu_move rfl rfl) ?_
              refine g_call [] rfl rfl rfl rfl rfl rfl (fun w' hm => Chain_b w' kc ys.c (ks := k :: conts cl) (hkq.m hm) ⟨Own.rd (hm.holds 38 _ rfl), by rw [List.length_cons, vals_length]; omega, All2.cons ⟨_, _, _, rfl, hk.m hm, fun _ _ => trivial⟩ ((BagC.els (E := 5) (hm.holds 91 _ rfl) (fun x hx => by have := hc32 x hx; omega)).imp (fun _ _ h => h.imp (fun _ _ => trivial))), by omega⟩) (fun _ _ => ?_)
              refine g_pu rfl rfl rfl (pu_move rfl rfl) ?_
              refine g_pu rfl rfl rfl (pu_extract rfl rfl rfl) ?_
              refine g_pu rfl rfl rfl (pu_extract rfl rfl rfl) ?_
              refine g_lo [12] rfl rfl rfl rfl (lo_alloc rfl) (fun b12 hb12 => ?_)
              refine g_storeL 12 (s := 32) (C := bs (chP pub (k :: conts cl)).1) rfl rfl rfl rfl rfl rfl hchb rfl (oneCell_bs _) ?_
              refine g_pu rfl rfl rfl (pu_assign rfl rfl) ?_
              refine g_nil ?_
              generalize hch : chP pub (k :: conts cl) = ch at hT hchl hchb
              obtain ⟨s, f⟩ := ch
              dsimp only at hT hchl hchb ⊢
              by_cases hf : f = 0
              · subst hf
                rw [if_pos rfl, comb_comb] at hT
                (repeat refine g_seq ?_)
                refine g_region ?_
                refine g_pu rfl rfl rfl (pu_move rfl rfl) ?_
                first | refine g_pu rfl rfl rfl (pu_neq_t rfl rfl rfl (by omega)) ?_ | refine g_pu rfl rfl rfl (pu_neq_f rfl rfl rfl (by omega)) ?_ | refine g_pu rfl rfl rfl (pu_neq rfl rfl rfl) ?_
                refine g_nil ?_
                (repeat refine g_seq ?_)
                refine g_cond_f rfl (g_skip ?_)
                have htl : (bs (stL' al s)).length = 192 := by rw [bs_length, stL'_length hal hchl]
                have hab : (bs al).length = 32 := by rw [bs_length, hal]
                have hsl := stepsL_length hh32
                have hsq : seqCells 192 0 [(0, Value.agg (bs (stL' al s)).toArray)] = some (bs (stL' al s)) := by simp only [seqCells, Value.cells, List.size_toArray, htl]; simp [List.append_nil]
                (repeat refine g_seq ?_)
                refine g_region ?_
                refine g_pu rfl rfl rfl (pu_loadW 6 (L := bs al) rfl rfl rfl hab) ?_
                refine g_pu rfl rfl rfl (pu_loadW 12 (L := bs s) rfl rfl rfl hchb) ?_
                refine g_call [] rfl rfl rfl rfl rfl rfl (fun w' hm => step12_b w' hal hchl) (fun _ _ => ?_)
                refine g_lo [14] rfl rfl rfl rfl (lo_alloc rfl) (fun b14 hb14 => ?_)
                refine g_storeL 14 (s := 192) (C := bs (stL' al s)) rfl rfl rfl rfl rfl rfl htl (by rw [List.length_replicate]) (oneCell_bs _) ?_
                refine g_nil ?_
                (repeat refine g_seq ?_)
                refine g_region ?_
                refine g_pu rfl rfl rfl (pu_move rfl rfl) ?_
                refine g_pu rfl rfl rfl (pu_loadW 14 (L := bs (stL' al s)) rfl rfl rfl htl) ?_
                refine g_lo [62] rfl rfl rfl rfl (lo_buildSlice rfl rfl (by decide) (by decide) rfl hsq) (fun b62 hb62 => ?_)
                refine g_append 90 (s := 192) (bs (stL' al s)) rfl rfl rfl (by omega) rfl rfl rfl rfl rfl (by rw [bs_length, hsl, hac]) (fun w' hm => hm.rowA 62 rfl) (by rw [htl]) (oneCell_bs _) (by omega) (by omega) (fun p1 c1 => ?_)
                rw [← bs_append, ← stepsL_snoc acc (al, s)]
                refine g_pu rfl rfl rfl (pu_assign rfl rfl) ?_
                refine g_nil ?_
                (repeat refine g_seq ?_)
                refine g_region ?_
                refine g_pu rfl rfl rfl (pu_move rfl rfl) ?_
                refine g_pu rfl rfl rfl (pu_fieldAddr (by decide) rfl rfl) ?_
                refine g_pu rfl rfl rfl (pu_fieldAddr (by decide) rfl rfl) ?_
                refine g_pu rfl rfl rfl (pu_sliceA rfl rfl) ?_
                refine g_call [68] rfl rfl rfl rfl rfl rfl (fun w' hm => SClone_b w' 32 (By.sub 14 rfl hm (stL'_blind hchl) (kBlind_length s) (by omega))) (fun x68 _ => ?_)
                refine g_lo [69] rfl rfl rfl rfl (lo_buildSlice rfl rfl (by decide) (by decide) rfl rfl) (fun b69 hb69 => ?_)
                refine g_append1 38 [x68.sl 32] rfl rfl rfl rfl rfl rfl rfl rfl (by rw [List.length_cons, vals_length, hcl]) (fun w' hm => hm.rowA 69 rfl) rfl (fun u hu => by rw [List.mem_singleton.1 hu]; rfl) (by omega) (by omega) (fun p2 c2 => ?_)
                refine g_pu rfl rfl rfl (pu_assign rfl rfl) ?_
                refine g_nil ?_
                refine g_bagSnoc 91 68 (E := 5) rfl rfl (by decide) rfl ?_
                have hvs : Value.slice p 32 c :: vals cl ++ [x68.sl 32] = .slice p 32 c :: vals (cl ++ [(x68, kBlind s)]) := by
                  rw [List.cons_append, vals_append]
                  show _ = _ :: (vals cl ++ [x68.sl (kBlind s).length])
                  rw [kBlind_length]
                rw [hvs]
                have hcs : conts (cl ++ [(x68, kBlind s)]) = conts cl ++ [kBlind s] := by rw [conts_append]; rfl
                have hcl2 : (cl ++ [(x68, kBlind s)]).length = i + 1 := by simp [hcl]
                have hc32' : ∀ x ∈ cl ++ [(x68, kBlind s)], x.2.length = 32 := fun x hx => by
                  rcases List.mem_append.1 hx with h1 | h1
                  · exact hc32 x h1
                  · rw [List.mem_singleton.1 h1]; exact kBlind_length s
                have hh32' : ∀ h ∈ acc ++ [(al, s)], h.1.length = 32 ∧ h.2.length = 32 := fun h hx => by
                  rcases List.mem_append.1 hx with h1 | h1
                  · exact hh32 h h1
                  · rw [List.mem_singleton.1 h1]; exact ⟨hal, hchl⟩
                rw [List.cons_append, ← hcs] at hT
                generalize cl ++ [(x68, kBlind s)] = cl' at hT hcl2 hc32' hcs
                by_cases hlast : i + 1 < m
                · have hr : pubs.drop (i + 1) ≠ [] := fun h => by have := congrArg List.length h; simp at this; omega
                  rw [if_neg hr, if_neg hr] at hT
                  have hxl := xmV_length (kBlind s) al
                  have hxb : (bs (xmV (kBlind s) al)).length = 32 := by rw [bs_length, hxl]
                  (repeat refine g_seq ?_)
                  refine g_region ?_
                  refine g_pu rfl rfl rfl (pu_move rfl rfl) ?_
                  first | refine g_pu rfl rfl rfl (pu_len rfl rfl) ?_ | refine g_pu rfl rfl rfl (pu_lenS rfl rfl) ?_
                  refine g_pu rfl rfl rfl (pu_move rfl rfl) ?_
                  first | refine g_pu rfl rfl rfl (pu_len rfl rfl) ?_ | refine g_pu rfl rfl rfl (pu_lenS rfl rfl) ?_
                  refine g_pu rfl rfl rfl (pu_lss_t rfl rfl rfl (by omega)) ?_
                  refine g_nil ?_
                  (repeat refine g_seq ?_)
                  refine g_cond_t rfl ?_
                  (repeat refine g_seq ?_)
                  refine g_region ?_
                  refine g_pu rfl rfl rfl (pu_loadW 14 (L := bs (stL' al s)) rfl rfl rfl htl) ?_
                  refine g_call [] rfl rfl rfl rfl rfl rfl (fun w' hm => Next12_b w' hal hchl) (fun _ _ => ?_)
                  refine g_pu rfl rfl rfl (pu_move rfl rfl) ?_
                  refine g_pu rfl rfl rfl (pu_extract rfl rfl rfl) ?_
                  refine g_pu rfl rfl rfl (pu_extract rfl rfl rfl) ?_
                  refine g_storeL 6 (s := 32) (C := bs (xmV (kBlind s) al)) rfl rfl rfl rfl rfl rfl hxb hab (oneCell_bs _) ?_
                  refine g_pu rfl rfl rfl (pu_assign rfl rfl) ?_
                  refine g_nil ?_
                  refine g_blk ?_
                  (repeat refine g_seq ?_)
                  refine g_region ?_
                  refine g_pu rfl rfl rfl (pu_addI rfl rfl rfl (by omega)) ?_
                  refine g_pu rfl rfl rfl (pu_move rfl rfl) ?_
                  refine g_nil ?_
                  exact g_round3 (i + 1) (xmV (kBlind s) al, xmE (kBlind s) al, acc ++ [(al, s)]) (⟨p2, c2⟩, cl', ⟨p1, c1⟩) ⟨by omega, hxl, hcl2, by simp [hac], hc32', hh32', hT⟩ (by omega) ⟨rfl, rfl, rfl, rfl, rfl, rfl, rfl, rfl, trivial⟩ ⟨rfl, rfl, rfl, rfl, trivial⟩
                · have hr : pubs.drop (i + 1) = [] := List.drop_of_length_le (by omega)
                  rw [if_pos hr, if_pos hr] at hT
                  (repeat refine g_seq ?_)
                  refine g_region ?_
                  refine g_pu rfl rfl rfl (pu_move rfl rfl) ?_
                  first | refine g_pu rfl rfl rfl (pu_len rfl rfl) ?_ | refine g_pu rfl rfl rfl (pu_lenS rfl rfl) ?_
                  refine g_pu rfl rfl rfl (pu_move rfl rfl) ?_
                  first | refine g_pu rfl rfl rfl (pu_len rfl rfl) ?_ | refine g_pu rfl rfl rfl (pu_lenS rfl rfl) ?_
                  refine g_pu rfl rfl rfl (pu_lss_f rfl rfl rfl (by omega)) ?_
                  refine g_nil ?_
                  (repeat refine g_seq ?_)
                  refine g_cond_f rfl (g_skip ?_)
                  refine g_blk ?_
                  (repeat refine g_seq ?_)
                  refine g_region ?_
                  refine g_pu rfl rfl rfl (pu_addI rfl rfl rfl (by omega)) ?_
                  refine g_pu rfl rfl rfl (pu_move rfl rfl) ?_
                  refine g_nil ?_
                  exact g_round3 (i + 1) (al, 0, acc ++ [(al, s)]) (⟨p2, c2⟩, cl', ⟨p1, c1⟩) ⟨by omega, hal, hcl2, by simp [hac], hc32', hh32', hT⟩ (by omega) ⟨rfl, rfl, rfl, rfl, rfl, rfl, rfl, rfl, trivial⟩ ⟨rfl, rfl, rfl, rfl, trivial⟩
              · rw [if_neg hf, comb_ne hf] at hT
                rw [← hT]
                (repeat refine g_seq ?_)
                refine g_region ?_
                refine g_pu rfl rfl rfl (pu_move rfl rfl) ?_
                refine g_pu rfl rfl rfl (pu_neq_t rfl rfl rfl hf) ?_
                refine g_nil ?_
                (repeat refine g_seq ?_)
                refine g_cond_t rfl ?_
                (repeat refine g_seq ?_)
                refine g_region ?_
                refine g_pu rfl rfl rfl (pu_move rfl rfl) ?_
                refine g_pu rfl rfl rfl (pu_assign rfl rfl) ?_
                refine g_pu rfl rfl rfl (pu_assign rfl rfl) ?_
                refine g_nil ?_
                refine g_nilOwn 92 153 192 rfl ?_
                exact g_ret2 rfl rfl rfl (fun w' hm => ⟨⟨none, 0⟩, trivial, rfl, hm.grows [92] ⟨rfl, trivial⟩ rfl⟩)
            · rw [if_neg he, comb_ne he] at hT
              rw [← hT]
              (repeat refine g_seq ?_)
              refine g_region ?_
              refine g_pu rfl rfl rfl (pu_move rfl rfl) ?_
              refine g_pu rfl rfl rfl (pu_neq_t rfl rfl rfl he) ?_
              refine g_nil ?_
              (repeat refine g_seq ?_)
              refine g_cond_t rfl ?_
              (repeat refine g_seq ?_)
              refine g_region ?_
              refine g_pu rfl rfl rfl (pu_move rfl rfl) ?_
              refine g_pu rfl rfl rfl (pu_assign rfl rfl) ?_
              refine g_pu rfl rfl rfl (pu_assign rfl rfl) ?_
              refine g_nil ?_
              refine g_nilOwn 92 153 192 rfl ?_
              exact g_ret2 rfl rfl rfl (fun w' hm => ⟨⟨none, 0⟩, trivial, rfl, hm.grows [92] ⟨rfl, trivial⟩ rfl⟩)
          · (repeat refine g_seq ?_)
            refine g_region ?_
            first | refine g_pu rfl rfl rfl (pu_lss_t rfl rfl rfl (by omega)) ?_ | refine g_pu rfl rfl rfl (pu_lss_f rfl rfl rfl (by omega)) ?_ | refine g_pu rfl rfl rfl (pu_lss rfl rfl rfl) ?_
            refine g_nil ?_
            (repeat refine g_seq ?_)
            refine g_cond_f rfl (g_exit rfl ?_)
            have hdr : pubs.drop i = [] := List.drop_of_length_le (by omega)
            rw [hdr] at hT
            have hTT2 : T = (0, acc) := by rw [← hT]; unfold schR comb; simp
            rw [hTT2]
            have hac' : (0, acc).2.length = i := hac
            (repeat refine g_seq ?_)
            refine g_region ?_
            refine g_pu rfl rfl rfl (pu_move rfl rfl) ?_
            refine g_pu rfl rfl rfl (pu_assign rfl rfl) ?_
            refine g_pu rfl rfl rfl (pu_assign rfl rfl) ?_
            refine g_nil ?_
            exact g_ret2 rfl rfl rfl (fun w' hm => ⟨xs, trivial, by rw [hac'], hm.grows [90] ⟨rfl, trivial⟩ rfl⟩)
  · rw [hbad (fun h => by have := (okS_iff _ _).1 h; omega)]
    (repeat refine g_seq ?_)
    refine g_region ?_
    refine g_pu rfl rfl rfl (pu_move rfl rfl) ?_
    first | refine g_pu rfl rfl rfl (pu_len rfl rfl) ?_ | refine g_pu rfl rfl rfl (pu_lenS rfl rfl) ?_
    first | refine g_pu rfl rfl rfl (pu_neq_t rfl rfl rfl (by omega)) ?_ | refine g_pu rfl rfl rfl (pu_neq_f rfl rfl rfl (by omega)) ?_ | refine g_pu rfl rfl rfl (pu_neq rfl rfl rfl) ?_
    refine g_pu rfl rfl rfl (pu_move rfl rfl) ?_
    first | refine g_pass rfl rfl rfl ?_ | refine g_pu rfl rfl rfl (pu_move rfl rfl) ?_
    first | refine g_pass rfl rfl rfl ?_ | refine g_pu rfl rfl rfl (pu_len rfl rfl) ?_ | refine g_pu rfl rfl rfl (pu_lenS rfl rfl) ?_
    first | refine g_pass rfl rfl rfl ?_ | refine g_pu rfl rfl rfl (pu_lss_t rfl rfl rfl (by omega)) ?_ | refine g_pu rfl rfl rfl (pu_lss_f rfl rfl rfl (by omega)) ?_ | refine g_pu rfl rfl rfl (pu_lss rfl rfl rfl) ?_
    first | refine g_pu rfl rfl rfl (pu_pick_t rfl rfl rfl) ?_ | refine g_pu rfl rfl rfl (pu_pick_f rfl rfl rfl) ?_
    refine g_pu rfl rfl rfl (pu_move rfl rfl) ?_
    first | refine g_pass rfl rfl rfl ?_ | refine g_pu rfl rfl rfl (pu_move rfl rfl) ?_
    first | refine g_pass rfl rfl rfl ?_ | refine g_pu rfl rfl rfl (pu_len rfl rfl) ?_ | refine g_pu rfl rfl rfl (pu_lenS rfl rfl) ?_
    first | refine g_pass rfl rfl rfl ?_ | refine g_pu rfl rfl rfl (pu_gtr_t rfl rfl rfl (by omega)) ?_ | refine g_pu rfl rfl rfl (pu_gtr_f rfl rfl rfl (by omega)) ?_ | refine g_pu rfl rfl rfl (pu_gtr rfl rfl rfl) ?_
    first | refine g_pu rfl rfl rfl (pu_pick_t rfl rfl rfl) ?_ | refine g_pu rfl rfl rfl (pu_pick_f rfl rfl rfl) ?_
    refine g_pu rfl rfl rfl (pu_move rfl rfl) ?_
    first | refine g_pass rfl rfl rfl ?_ | refine g_pu rfl rfl rfl (pu_move rfl rfl) ?_
    refine g_pass rfl rfl rfl ?_
    first | refine g_pu rfl rfl rfl (pu_pick_t rfl rfl rfl) ?_ | refine g_pu rfl rfl rfl (pu_pick_f rfl rfl rfl) ?_
    refine g_nil ?_
    (repeat refine g_seq ?_)
    refine g_cond_t rfl ?_
    (repeat refine g_seq ?_)
    refine g_region ?_
    refine g_pu rfl rfl rfl (pu_assign rfl rfl) ?_
    refine g_pu rfl rfl rfl (pu_assign rfl rfl) ?_
    refine g_nil ?_
    refine g_nilOwn 90 153 192 rfl ?_
    exact g_ret2 rfl rfl rfl (fun w' hm => ⟨⟨none, 0⟩, trivial, rfl, hm.grows [90] ⟨rfl, trivial⟩ rfl⟩)
end Go.Sx

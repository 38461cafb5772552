import Derived.Test.YteblmnpklcdnpaaW4
import Derived.Test.YteblmnpklcdnpaaXC
set_option linter.unusedVariables false
set_option linter.unusedSimpArgs false
/-
  The same by each key: all, SealAll, OpenAll of the program. The lists fit memory.
-/
namespace Go.Sx
open Go Go.Proofs

def wfold (zs : List Int) (ks : List (List (BitVec 8))) (b : List (BitVec 8)) : List (BitVec 8) := ks.foldl (fun b k => rdsL k zs b) b
def w32 (ks : List (List (BitVec 8))) : Bool := ks.all fun k => k.length == 32
def allOk (b : List (BitVec 8)) (ks : List (List (BitVec 8))) : Bool := fitsB 32 b.length && w32 ks
def allV (zs : List Int) (b : List (BitVec 8)) (ks : List (List (BitVec 8))) : List (BitVec 8) := if allOk b ks = true then wfold zs ks b else []
def allE (b : List (BitVec 8)) (ks : List (List (BitVec 8))) : Int := if allOk b ks = true then 0 else 2
theorem w32_take {ks : List (List (BitVec 8))} {i : Nat} {k : List (BitVec 8)} (h : ks[i]? = some k) : w32 (ks.take (i + 1)) = (w32 (ks.take i) && (k.length == 32)) := by
  unfold w32
  rw [List.take_add_one, h, List.all_append]
  simp
theorem wfold_take {zs : List Int} {ks : List (List (BitVec 8))} {i : Nat} {k : List (BitVec 8)} (h : ks[i]? = some k) (b : List (BitVec 8)) : wfold zs (ks.take (i + 1)) b = rdsL k zs (wfold zs (ks.take i) b) := by
  unfold wfold
  rw [List.take_add_one, h, List.foldl_append]; rfl
theorem wfold_length (zs : List Int) : ∀ (ks : List (List (BitVec 8))) {b : List (BitVec 8)}, 32 ≤ b.length → (wfold zs ks b).length = b.length
  | [], _, _ => rfl
  | k :: r, b, h => by
    have h1 := rdsL_length k zs h
    have h2 := wfold_length zs r (b := rdsL k zs b) (by omega)
    show (wfold zs r (rdsL k zs b)).length = _
    omega
theorem wfold_back {zs zr : List Int} (hrev : zs.reverse = zr) : ∀ (ks : List (List (BitVec 8))) {b : List (BitVec 8)}, 32 ≤ b.length → wfold zr ks.reverse (wfold zs ks b) = b
  | [], _, _ => rfl
  | k :: r, b, h => by
    have h1 := rdsL_length k zs h
    have h2 := wfold_back hrev r (b := rdsL k zs b) (by omega)
    show wfold zr (k :: r).reverse (wfold zs r (rdsL k zs b)) = b
    unfold wfold at h2 ⊢
    rw [List.reverse_cons, List.foldl_append, h2]
    show rdsL k zr (rdsL k zs b) = b
    rw [← hrev]
    exact rdsL_back k zs h
theorem w32_mem {ks : List (List (BitVec 8))} (h : w32 ks = true) {k : List (BitVec 8)} (hk : k ∈ ks) : k.length = 32 := by
  have := List.all_eq_true.1 h k hk
  simpa using this

theorem wall_b (w : World) {p q : Option Addr} {n m : Nat} (c d : Nat) {b : List (BitVec 8)} {L : List Value} {ks : List (List (BitVec 8))} {zs : List Int} {f : FuncId} (hzs : okZ zs = true) (hcal : Callable Try.prog f)
    (hf : ∀ (w' : World) (p q : Option Addr) (n m c d : Nat) (key b : List (BitVec 8)), By w' p n key → By w' q m b → Spec Try.prog f #[.slice p n c, .slice q m d] w' (σ := Ow) (fun _ => True) (fun x => .tuple #[x.sl (rdsV key b zs).length, .int .i64 (rdsE n m zs)]) Nob (fun x => [x.ck 5 1 (bs (rdsV key b zs))]))
    (hb : By w p n b) (ha : ByL w q m L ks) : Spec Try.prog 36 #[.slice p n c, .slice q m d, fv f] w (σ := Ow) (fun _ => True) (fun x => .tuple #[x.sl (allV zs b ks).length, .int .i64 (allE b ks)]) Nob (fun x => [x.ck 5 1 (bs (allV zs b ks))]) := by
  have hbl := hb.len
  subst hbl
  refine enter Try.func36 rfl rfl (Mem.start w) ?_
  have hLn := ha.len
  have hbig := ha.big
  have hln := ha.lenL
  (repeat refine g_seq ?_)
  refine g_region ?_
  refine g_pu rfl rfl rfl (pu_assign rfl rfl) ?_
  refine g_pu rfl rfl rfl (pu_assign rfl rfl) ?_
  refine g_nil ?_
  (repeat refine g_seq ?_)
  refine g_region ?_
  refine g_lo [14] rfl rfl rfl rfl (lo_make (n := 32) (c := 32) rfl rfl rfl (by omega) (by omega) (by omega) rfl) (fun b14 hb14 => ?_)
  refine g_pu rfl rfl rfl (pu_move rfl rfl) ?_
  refine g_call [] rfl rfl rfl rfl rfl rfl (fun w' hm => wcheck_b w' (some ⟨b14, 0, none⟩) p 32 b.length 32 c) (fun _ _ => ?_)
  refine g_pu rfl rfl rfl (pu_assign rfl rfl) ?_
  refine g_nil ?_
  by_cases h1 : fitsB 32 b.length = true
  · obtain ⟨_, f2, f3⟩ := (fitsB_iff _ _).1 h1
    rw [if_pos h1]
    (repeat refine g_seq ?_)
    refine g_region ?_
    refine g_pu rfl rfl rfl (pu_move rfl rfl) ?_
    first | refine g_pu rfl rfl rfl (pu_neq_t rfl rfl rfl (by omega)) ?_ | refine g_pu rfl rfl rfl (pu_neq_f rfl rfl rfl (by omega)) ?_ | refine g_pu rfl rfl rfl (pu_neq rfl rfl rfl) ?_
    refine g_nil ?_
    (repeat refine g_seq ?_)
    refine g_cond_f rfl (g_skip ?_)
    (repeat refine g_seq ?_)
    refine g_region ?_
    refine g_pu rfl rfl rfl (pu_move rfl rfl) ?_
    refine g_call [21] rfl rfl rfl rfl rfl rfl (fun w' hm => Clone_b w' c (hb.m hm)) (fun x21 _ => ?_)
    refine g_pu rfl rfl rfl (pu_assign rfl rfl) ?_
    refine g_nil ?_
    (repeat refine g_seq ?_)
    refine g_region ?_
    refine g_pu rfl rfl rfl (pu_move rfl rfl) ?_
    first | refine g_pu rfl rfl rfl (pu_len rfl rfl) ?_ | refine g_pu rfl rfl rfl (pu_lenS rfl rfl) ?_
    refine g_pu rfl rfl rfl (pu_move rfl rfl) ?_
    refine g_nil ?_
    (repeat refine g_seq ?_)
    refine g_block (g_loop3 (fun (i : Nat) (l : List (BitVec 8)) (y : Ow) => [(2, fv f), (9, y.sl b.length), (22, .slice q m d), (23, .int .i64 (m : Int)), (24, .int .i64 (i : Int))]) (fun _ l y => [(21, y.ck 5 1 (bs l))]) (fun i l _ => i ≤ m ∧ l.length = b.length ∧ w32 (ks.take i) = true ∧ l = wfold zs (ks.take i) b) (fun i _ _ => m - i) 0 b x21 ⟨rfl, rfl, rfl, rfl, rfl, trivial⟩ ⟨rfl, trivial⟩ ⟨by omega, rfl, rfl, rfl⟩ ?_)
    intro i l y ⟨hi, hll, hw, hl⟩
    by_cases hlt : i < m
    · (repeat refine g_seq ?_)
      refine g_region ?_
      first | refine g_pu rfl rfl rfl (pu_lss_t rfl rfl rfl (by omega)) ?_ | refine g_pu rfl rfl rfl (pu_lss_f rfl rfl rfl (by omega)) ?_ | refine g_pu rfl rfl rfl (pu_lss rfl rfl rfl) ?_
      refine g_nil ?_
      (repeat refine g_seq ?_)
      refine g_cond_t rfl (g_skip ?_)
      have h2 : ks[i]? = some ks[i] := List.getElem?_eq_getElem (by omega)
      have hmem := List.getElem_mem (l := ks) (n := i) (by omega)
      have ht := w32_take h2
      have hft := wfold_take (zs := zs) h2 b
      generalize ks[i] = k at h2 hmem ht hft
      obtain ⟨kq, km, kc, hL, hkq⟩ := ha.at h2
      have hkl := hkq.len
      rw [hw, Bool.true_and] at ht
      rw [← hl] at hft
      (repeat refine g_seq ?_); refine g_block ?_
      (repeat refine g_seq ?_)
      refine g_region ?_
      refine g_pu rfl rfl rfl (pu_atM1 i (fun w' hm => (ha.m hm).rd) rfl rfl rfl rfl hlt (by omega)) ?_
      refine g_pu rfl rfl rfl (pu_rdM (fun w' hm => (ha.m hm).rd) rfl rfl hL) ?_
      refine g_pu rfl rfl rfl (pu_assign rfl rfl) ?_
      refine g_nil ?_
      by_cases h32 : km = 32
      · have hfk : fitsB k.length l.length = true := by rw [hkl, h32, hll]; exact h1
        obtain ⟨e1, e2⟩ := rds_ok (key := k) (b := l) hzs hfk
        have hrl := rdsL_length k zs (l := l) (by omega)
        rw [hkl, hll] at e1
        (repeat refine g_seq ?_)
        refine g_region ?_
        refine g_pu rfl rfl rfl (pu_move rfl rfl) ?_
        refine g_pu rfl rfl rfl (pu_move rfl rfl) ?_
        refine g_pu rfl rfl rfl (pu_move rfl rfl) ?_
        refine g_callV [32] rfl rfl rfl rfl hcal rfl rfl rfl (fun w' hm => hf w' kq y.p km b.length kc y.c k l (hkq.m hm) (By.ow 21 rfl hm hll (by omega))) (fun x32 _ => ?_)
        rw [e1, e2, hrl, hll]
        refine g_pu rfl rfl rfl (pu_move rfl rfl) ?_
        refine g_pu rfl rfl rfl (pu_extract rfl rfl rfl) ?_
        refine g_pu rfl rfl rfl (pu_extract rfl rfl rfl) ?_
        refine g_pu rfl rfl rfl (pu_assign rfl rfl) ?_
        refine g_pu rfl rfl rfl (pu_assign rfl rfl) ?_
        refine g_nil ?_
        (repeat refine g_seq ?_)
        refine g_region ?_
        refine g_pu rfl rfl rfl (pu_move rfl rfl) ?_
        first | refine g_pu rfl rfl rfl (pu_neq_t rfl rfl rfl (by omega)) ?_ | refine g_pu rfl rfl rfl (pu_neq_f rfl rfl rfl (by omega)) ?_ | refine g_pu rfl rfl rfl (pu_neq rfl rfl rfl) ?_
        refine g_nil ?_
        (repeat refine g_seq ?_)
        refine g_cond_f rfl (g_skip ?_)
        (repeat refine g_seq ?_)
        refine g_region ?_
        refine g_pu rfl rfl rfl (pu_move rfl rfl) ?_
        refine g_pu rfl rfl rfl (pu_assign rfl rfl) ?_
        refine g_nil ?_
        refine g_retag 32 21 _ rfl rfl ?_
        refine g_blk ?_
        (repeat refine g_seq ?_)
        refine g_region ?_
        refine g_pu rfl rfl rfl (pu_addI rfl rfl rfl (by omega)) ?_
        refine g_pu rfl rfl rfl (pu_move rfl rfl) ?_
        refine g_nil ?_
        exact g_round3 (i + 1) (rdsL k zs l) x32 ⟨by omega, by rw [hrl, hll], by rw [ht, hkl, h32]; rfl, hft.symm⟩ (by omega) ⟨rfl, rfl, rfl, rfl, rfl, trivial⟩ ⟨rfl, trivial⟩
      · have hfk : ¬ fitsB k.length l.length = true := fun h => h32 (by rw [← hkl]; exact ((fitsB_iff _ _).1 h).1)
        obtain ⟨e1, e2⟩ := rds_s (key := k) (b := l) hzs hfk
        rw [hkl, hll] at e1
        have hno : ¬ allOk b ks = true := fun h => h32 (by
          unfold allOk at h
          rw [Bool.and_eq_true] at h
          rw [← hkl]
          exact w32_mem h.2 hmem)
        have hV : allV zs b ks = [] := if_neg hno
        have hE : allE b ks = 2 := if_neg hno
        rw [hV, hE]
        (repeat refine g_seq ?_)
        refine g_region ?_
        refine g_pu rfl rfl rfl (pu_move rfl rfl) ?_
        refine g_pu rfl rfl rfl (pu_move rfl rfl) ?_
        refine g_pu rfl rfl rfl (pu_move rfl rfl) ?_
        refine g_callV [32] rfl rfl rfl rfl hcal rfl rfl rfl (fun w' hm => hf w' kq y.p km b.length kc y.c k l (hkq.m hm) (By.ow 21 rfl hm hll (by omega))) (fun x32 _ => ?_)
        rw [e1, e2]
        refine g_pu rfl rfl rfl (pu_move rfl rfl) ?_
        refine g_pu rfl rfl rfl (pu_extract rfl rfl rfl) ?_
        refine g_pu rfl rfl rfl (pu_extract rfl rfl rfl) ?_
        refine g_pu rfl rfl rfl (pu_assign rfl rfl) ?_
        refine g_pu rfl rfl rfl (pu_assign rfl rfl) ?_
        refine g_nil ?_
        (repeat refine g_seq ?_)
        refine g_region ?_
        refine g_pu rfl rfl rfl (pu_move rfl rfl) ?_
        first | refine g_pu rfl rfl rfl (pu_neq_t rfl rfl rfl (by omega)) ?_ | refine g_pu rfl rfl rfl (pu_neq_f rfl rfl rfl (by omega)) ?_ | refine g_pu rfl rfl rfl (pu_neq rfl rfl rfl) ?_
        refine g_nil ?_
        (repeat refine g_seq ?_)
        refine g_cond_t rfl ?_
        (repeat refine g_seq ?_)
        refine g_region ?_
        refine g_pu rfl rfl rfl (pu_move rfl rfl) ?_
        refine g_pu rfl rfl rfl (pu_assign rfl rfl) ?_
        refine g_pu rfl rfl rfl (pu_assign rfl rfl) ?_
        refine g_nil ?_
        refine g_nilOwn 90 5 1 rfl ?_
        exact g_ret2 rfl rfl rfl (fun w' hm => ⟨⟨none, 0⟩, trivial, rfl, hm.grows [90] ⟨rfl, trivial⟩ rfl⟩)
    · (repeat refine g_seq ?_)
      refine g_region ?_
      first | refine g_pu rfl rfl rfl (pu_lss_t rfl rfl rfl (by omega)) ?_ | refine g_pu rfl rfl rfl (pu_lss_f rfl rfl rfl (by omega)) ?_ | refine g_pu rfl rfl rfl (pu_lss rfl rfl rfl) ?_
      refine g_nil ?_
      (repeat refine g_seq ?_)
      refine g_cond_f rfl (g_exit rfl ?_)
      rw [List.take_of_length_le (by omega)] at hw hl
      have hok : allOk b ks = true := by unfold allOk; rw [h1, hw]; rfl
      have hV : allV zs b ks = wfold zs ks b := if_pos hok
      have hE : allE b ks = 0 := if_pos hok
      rw [hV, hE, ← hl, hll]
      (repeat refine g_seq ?_)
      refine g_region ?_
      refine g_pu rfl rfl rfl (pu_move rfl rfl) ?_
      refine g_pu rfl rfl rfl (pu_assign rfl rfl) ?_
      refine g_pu rfl rfl rfl (pu_assign rfl rfl) ?_
      refine g_nil ?_
      exact g_ret2 rfl rfl rfl (fun w' hm => ⟨y, trivial, rfl, hm.grows [21] ⟨rfl, trivial⟩ rfl⟩)
  · have hno : ¬ allOk b ks = true := fun h => h1 (by
      unfold allOk at h
      rw [Bool.and_eq_true] at h
      exact h.1)
    have hV : allV zs b ks = [] := if_neg hno
    have hE : allE b ks = 2 := if_neg hno
    rw [if_neg h1, hV, hE]
    (repeat refine g_seq ?_)
    refine g_region ?_
    refine g_pu rfl rfl rfl (pu_move rfl rfl) ?_
    first | refine g_pu rfl rfl rfl (pu_neq_t rfl rfl rfl (by omega)) ?_ | refine g_pu rfl rfl rfl (pu_neq_f rfl rfl rfl (by omega)) ?_ | refine g_pu rfl rfl rfl (pu_neq rfl rfl rfl) ?_
    refine g_nil ?_
    (repeat refine g_seq ?_)
    refine g_cond_t rfl ?_
    (repeat refine g_seq ?_)
    refine g_region ?_
    refine g_pu rfl rfl rfl (pu_move rfl rfl) ?_
    refine g_pu rfl rfl rfl (pu_assign rfl rfl) ?_
    refine g_pu rfl rfl rfl (pu_assign rfl rfl) ?_
    refine g_nil ?_
    refine g_nilOwn 90 5 1 rfl ?_
    exact g_ret2 rfl rfl rfl (fun w' hm => ⟨⟨none, 0⟩, trivial, rfl, hm.grows [90] ⟨rfl, trivial⟩ rfl⟩)
theorem SealAll_b (w : World) {p q : Option Addr} {n m : Nat} (c d : Nat) {b : List (BitVec 8)} {L : List Value} {ks : List (List (BitVec 8))} (hb : By w p n b) (ha : ByL w q m L ks) : Spec Try.prog 17 #[.slice p n c, .slice q m d] w (σ := Ow) (fun _ => True) (fun x => .tuple #[x.sl (allV zS b ks).length, .int .i64 (allE b ks)]) Nob (fun x => [x.ck 5 1 (bs (allV zS b ks))]) := by
  refine enter Try.func17 rfl rfl (Mem.start w) ?_
  (repeat refine g_seq ?_)
  refine g_region ?_
  refine g_pu rfl rfl rfl (pu_assign rfl rfl) ?_
  refine g_pu rfl rfl rfl (pu_assign rfl rfl) ?_
  refine g_nil ?_
  (repeat refine g_seq ?_)
  refine g_region ?_
  refine g_pu rfl rfl rfl (pu_move rfl rfl) ?_
  refine g_pu rfl rfl rfl (pu_move rfl rfl) ?_
  refine g_call [8] rfl rfl rfl rfl rfl rfl (fun w' hm => wall_b w' c d (zs := zS) rfl Cal.h (fun w' p q n m c d key b hk hb => Seal_b w' c d hk hb) (hb.m hm) (ha.m hm)) (fun x8 _ => ?_)
  refine g_pu rfl rfl rfl (pu_extract rfl rfl rfl) ?_
  refine g_pu rfl rfl rfl (pu_extract rfl rfl rfl) ?_
  refine g_pu rfl rfl rfl (pu_assign rfl rfl) ?_
  refine g_pu rfl rfl rfl (pu_assign rfl rfl) ?_
  refine g_nil ?_
  exact g_ret2 rfl rfl rfl (fun w' hm => ⟨x8, trivial, rfl, hm.grows [8] ⟨rfl, trivial⟩ rfl⟩)
theorem OpenAll_b (w : World) {p q : Option Addr} {n m : Nat} (c d : Nat) {b : List (BitVec 8)} {L : List Value} {ks : List (List (BitVec 8))} (hb : By w p n b) (ha : ByL w q m L ks) : Spec Try.prog 20 #[.slice p n c, .slice q m d] w (σ := Ow) (fun _ => True) (fun x => .tuple #[x.sl (allV zO b ks).length, .int .i64 (allE b ks)]) Nob (fun x => [x.ck 5 1 (bs (allV zO b ks))]) := by
  refine enter Try.func20 rfl rfl (Mem.start w) ?_
  (repeat refine g_seq ?_)
  refine g_region ?_
  refine g_pu rfl rfl rfl (pu_assign rfl rfl) ?_
  refine g_pu rfl rfl rfl (pu_assign rfl rfl) ?_
  refine g_nil ?_
  (repeat refine g_seq ?_)
  refine g_region ?_
  refine g_pu rfl rfl rfl (pu_move rfl rfl) ?_
  refine g_pu rfl rfl rfl (pu_move rfl rfl) ?_
  refine g_call [8] rfl rfl rfl rfl rfl rfl (fun w' hm => wall_b w' c d (zs := zO) rfl Cal.h (fun w' p q n m c d key b hk hb => Open_b w' c d hk hb) (hb.m hm) (ha.m hm)) (fun x8 _ => ?_)
  refine g_pu rfl rfl rfl (pu_extract rfl rfl rfl) ?_
  refine g_pu rfl rfl rfl (pu_extract rfl rfl rfl) ?_
  refine g_pu rfl rfl rfl (pu_assign rfl rfl) ?_
  refine g_pu rfl rfl rfl (pu_assign rfl rfl) ?_
  refine g_nil ?_
  exact g_ret2 rfl rfl rfl (fun w' hm => ⟨x8, trivial, rfl, hm.grows [8] ⟨rfl, trivial⟩ rfl⟩)
end Go.Sx

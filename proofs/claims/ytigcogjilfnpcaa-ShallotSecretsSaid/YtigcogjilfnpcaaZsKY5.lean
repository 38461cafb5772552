import Derived.Test.YtigcogjilfnpcaaZsKY4
set_option linter.unusedVariables false
set_option linter.unusedSimpArgs false
/-
  What sender and hops come to, and a step that equals itself. The lists fit memory.
-/
namespace Go.Sx
open Go Go.Proofs

theorem BasB.own {u k : List (BitVec 8)} : leB 32 (readN (xmV k u)) = xmV k u := by
  unfold xmV
  rw [readN_leB (xmN_lt k u)]
theorem chR_bas : ∀ (ks : List (List (BitVec 8))) {p u : List (BitVec 8)}, (∀ k ∈ ks, k.length = 32) → p.length = 32 → BasB u → chR ks (xmV p u) = (xmV p (ks.foldl (fun u k => xmV k u) u), 0)
  | [], _, _, _, _, _ => rfl
  | k :: r, p, u, hk, hp, hu => by
    have hk32 := hk k (by simp)
    have e : chR (k :: r) (xmV p u) = if xmE k (xmV p u) = 0 then chR r (xmV k (xmV p u)) else (zero32, xmE k (xmV p u)) := rfl
    rw [e, (hu.mul hp).e hk32, if_pos rfl, xmV_comm hp hk32 hu.1, chR_bas r (fun x hx => hk x (List.mem_cons_of_mem _ hx)) hp (hu.mul hk32)]
    rfl
/-- What sender and hops come to. -/
def meetL : List (List (BitVec 8)) → List (BitVec 8) → List HopS
  | [], _ => []
  | p :: r, al => (al, xmV p al) :: meetL r (xmV (kBlind (xmV p al)) al)
theorem rch_meet : ∀ (privs : List (List (BitVec 8))) {al : List (BitVec 8)} {sc : List (List (BitVec 8))}, (∀ k ∈ privs, k.length = 32) → (∀ k ∈ sc, k.length = 32) → al = sc.foldl (fun u k => xmV k u) nine → rchR (privs.map fun p => xmV p nine) al sc = (0, meetL privs al)
  | [], _, _, _, _, _ => rfl
  | p :: r, al, sc, hp, hs, ha => by
    have hp32 := hp p (by simp)
    have hc : chP (xmV p nine) sc = (xmV p al, 0) := by
      have h1 : chP (xmV p nine) sc = chR sc (leB 32 (readN (xmV p nine))) := if_pos ⟨xmV_length _ _, List.all_eq_true.2 fun k hk => by rw [hs k hk]; rfl⟩
      rw [h1, BasB.own, chR_bas sc hs hp32 basB_nine, ← ha]
    rw [List.map_cons]
    unfold rchR
    rw [hc, if_pos rfl, rch_meet r (fun k hk => hp k (List.mem_cons_of_mem _ hk)) (fun k hk => by
      rcases List.mem_append.1 hk with h1 | h1
      · exact hs k h1
      · rw [List.mem_singleton.1 h1]; exact kBlind_length _) (by rw [List.foldl_append, ← ha]; rfl)]
    rfl
theorem sch_meet {k : List (BitVec 8)} {privs : List (List (BitVec 8))} (hk : k.length = 32) (hp : ∀ p ∈ privs, p.length = 32) (h1 : 1 ≤ privs.length) (h5 : privs.length ≤ 5) : rchP k (privs.map fun p => xmV p nine) = (0, meetL privs (xmV k nine)) := by
  have hok : okS k (privs.map fun p => xmV p nine) = true := (okS_iff _ _).2 ⟨hk, by rw [List.length_map]; exact h1, by rw [List.length_map]; exact h5, by
    unfold bad32
    rw [List.any_eq_false]
    intro l hl
    obtain ⟨p, _, rfl⟩ := List.mem_map.1 hl
    rw [xmV_length]; decide⟩
  unfold rchP
  rw [if_pos hok]
  exact rch_meet privs hp (fun x hx => by rw [List.mem_singleton.1 hx]; exact hk) rfl
theorem meetL_length : ∀ (privs : List (List (BitVec 8))) (al : List (BitVec 8)), (meetL privs al).length = privs.length
  | [], _ => rfl
  | _ :: r, _ => by simp [meetL, meetL_length r]
theorem meetL_drop {privs : List (List (BitVec 8))} {i : Nat} {p al : List (BitVec 8)} (h : privs[i]? = some p) : meetL (privs.drop i) al = (al, xmV p al) :: meetL (privs.drop (i + 1)) (xmV (kBlind (xmV p al)) al) := by
  have hi := (List.getElem?_eq_some_iff.1 h)
  rw [List.drop_eq_getElem_cons hi.1, hi.2]
  rfl
theorem keys_reflD (d : Nat) (L : List (BitVec 8)) (hL : L.length = 128) (w : World) : (Op.equalIn (d + 3) 141 (.agg (bs L).toArray) (.agg (bs L).toArray)).run Try.prog w = .ok true w := by
  have hfs : (Try.prog.fieldsOf 141).toList.map (fun f => (f.type, f.offset)) = [(24, 0), (24, 32), (24, 64), (24, 96)] := by kernel_rfl
  have hu : Try.prog.underlying 141 = some (.struct (Try.prog.fieldsOf 141)) := by kernel_rfl
  rw [run_equalIn_struct w (d + 2) _ _ _ hu (by kernel_rfl)]
  refine eqFields_refl _ _ w _ fun f hf => ?_
  have hmem : (f.type, f.offset) ∈ [((24 : Nat), 0), (24, 32), (24, 64), (24, 96)] := by
    rw [← hfs]; exact List.mem_map.2 ⟨f, hf, rfl⟩
  have key : ∀ off, off + 32 ≤ 128 → ∃ v, (part 24 (bs L).toArray off).run Try.prog w = .ok v w ∧ (Op.equalIn (d + 2) 24 v v).run Try.prog w = .ok true w := fun off ho => by
    have e := bs_ext L off 32
    refine ⟨.agg (bs ((L.drop off).take 32)).toArray, ?_, run_eqA_refl d w (Und.h (P := Try.prog) (t := 24)) (Und.h (P := Try.prog) (t := 5)) (One.h (P := Try.prog) (t := 5)) (bs ((L.drop off).take 32)) (all_bs _) (by rw [bs_length, List.length_take, List.length_drop]; omega)⟩
    simp [part, run_isAgg (Agg.h (P := Try.prog) (t := 24)), run_size (Siz.h (P := Try.prog) (t := 24)), e]
    rw [bs_drop, bs_take]
  simp only [List.mem_cons, Prod.mk.injEq, List.not_mem_nil, or_false] at hmem
  rcases hmem with ⟨h1, h2⟩ | ⟨h1, h2⟩ | ⟨h1, h2⟩ | ⟨h1, h2⟩ <;> rw [h1, h2] <;> exact key _ (by omega)
theorem step_refl (L : List (BitVec 8)) (hL : L.length = 192) (w : World) : (Op.equal 153 (.agg (bs L).toArray) (.agg (bs L).toArray)).run Try.prog w = .ok true w := by
  obtain ⟨d, hd⟩ : ∃ d, Op.maxDepth = d + 4 := ⟨_, rfl⟩
  have hfs : (Try.prog.fieldsOf 153).toList.map (fun f => (f.type, f.offset)) = [(141, 0), (24, 128), (24, 160)] := by kernel_rfl
  have hu : Try.prog.underlying 153 = some (.struct (Try.prog.fieldsOf 153)) := by kernel_rfl
  rw [Op.equal, hd, run_equalIn_struct w (d + 3) _ _ _ hu (by kernel_rfl)]
  refine eqFields_refl _ _ w _ fun f hf => ?_
  have hmem : (f.type, f.offset) ∈ [((141 : Nat), 0), (24, 128), (24, 160)] := by
    rw [← hfs]; exact List.mem_map.2 ⟨f, hf, rfl⟩
  have key : ∀ off, off + 32 ≤ 192 → ∃ v, (part 24 (bs L).toArray off).run Try.prog w = .ok v w ∧ (Op.equalIn (d + 3) 24 v v).run Try.prog w = .ok true w := fun off ho => by
    have e := bs_ext L off 32
    refine ⟨.agg (bs ((L.drop off).take 32)).toArray, ?_, run_eqA_refl (d + 1) w (Und.h (P := Try.prog) (t := 24)) (Und.h (P := Try.prog) (t := 5)) (One.h (P := Try.prog) (t := 5)) (bs ((L.drop off).take 32)) (all_bs _) (by rw [bs_length, List.length_take, List.length_drop]; omega)⟩
    simp [part, run_isAgg (Agg.h (P := Try.prog) (t := 24)), run_size (Siz.h (P := Try.prog) (t := 24)), e]
    rw [bs_drop, bs_take]
  simp only [List.mem_cons, Prod.mk.injEq, List.not_mem_nil, or_false] at hmem
  rcases hmem with ⟨h1, h2⟩ | ⟨h1, h2⟩ | ⟨h1, h2⟩ <;> rw [h1, h2]
  · refine ⟨.agg (bs ((L.drop 0).take 128)).toArray, ?_, keys_reflD d _ (by rw [List.length_take, List.length_drop]; omega) w⟩
    simp [part, run_isAgg (Agg.h (P := Try.prog) (t := 141)), run_size (Siz.h (P := Try.prog) (t := 141))]
    simp [bs_take]
  · exact key _ (by omega)
  · exact key _ (by omega)
theorem stepsM_get {l : List HopS} (ho : ∀ h ∈ l, h.1.length = 32 ∧ h.2.length = 32) {i : Nat} {h : HopS} {r : List HopS} (hi : l.drop i = h :: r) : l[i]? = some h := by
  have := congrArg (fun x => x[0]?) hi
  simpa [List.getElem?_drop] using this
end Go.Sx

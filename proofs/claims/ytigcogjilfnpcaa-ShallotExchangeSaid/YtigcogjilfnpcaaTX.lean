import Derived.Test.YtigcogjilfnpcaaEL
import Derived.Test.YtigcogjilfnpcaaTS
import Derived.Test.YtigcogjilfnpcaaTA
set_option linter.unusedVariables false
set_option linter.unusedSimpArgs false
/-
  Scalars in any order: the chain's answer; the lists that swaps make; noughts put behind a row. The lists fit memory.
-/
namespace Go.Sx
open Go Go.Proofs

/-! ## The chain -/
theorem xmV_nzX {k u : List (BitVec 8)} (h : xmN k u ≠ 0) : xmV k u ≠ zero32 := fun e => h (by
  rw [zero32_leB] at e
  have h1 := congrArg numB (show leB 32 (xmN k u) = leB 32 0 from e)
  rwa [numB_leB 32 _ (by have := xmN_lt k u; omega), numB_leB 32 _ (by omega)] at h1)
theorem xmN_zeroX {k : List (BitVec 8)} (hk : k.length = 32) : xmN k zero32 = 0 := by
  rw [zero32_leB, xmN_eq hk (leB_length 32 _), readN_leB (by omega)]
  exact ladV_0 rfl _
theorem xmV_zeroX {k u : List (BitVec 8)} (h : xmN k u = 0) : xmV k u = zero32 := by rw [xmV, h, zero32_leB]
def fvX (ks : List (List (BitVec 8))) (u : List (BitVec 8)) : List (BitVec 8) := ks.foldl (fun u k => xmV k u) u
theorem fvX_zero : ∀ {ks : List (List (BitVec 8))}, (∀ k ∈ ks, k.length = 32) → fvX ks zero32 = zero32
  | [], _ => rfl
  | k :: r, h => by
    show fvX r (xmV k zero32) = zero32
    rw [xmV_zeroX (xmN_zeroX (h k (by simp)))]
    exact fvX_zero fun x hx => h x (List.mem_cons_of_mem _ hx)
theorem fvX_num : ∀ (r : List (List (BitVec 8))) (k u : List (BitVec 8)), ∃ n, n < 57896044618658097711785492504343953926634992332820282019728792003956564819949 ∧ fvX (k :: r) u = leB 32 n
  | [], k, u => ⟨_, xmN_lt k u, rfl⟩
  | k' :: r, k, u => fvX_num r k' (xmV k u)
theorem chR_fvX : ∀ (r : List (List (BitVec 8))) (k u : List (BitVec 8)), (∀ x ∈ k :: r, x.length = 32) → u.length = 32 → chR (k :: r) u = if fvX (k :: r) u = zero32 then (zero32, 5) else (fvX (k :: r) u, 0)
  | r, k, u, h, hu => by
    have hk := h k (by simp)
    have hr : ∀ x ∈ r, x.length = 32 := fun x hx => h x (List.mem_cons_of_mem _ hx)
    have e : chR (k :: r) u = if xmE k u = 0 then chR r (xmV k u) else (zero32, xmE k u) := rfl
    have e2 : fvX (k :: r) u = fvX r (xmV k u) := rfl
    rw [e]
    by_cases h0 : xmN k u = 0
    · rw [xmE_z hk hu h0, if_neg (by omega), e2, xmV_zeroX h0, fvX_zero hr, if_pos rfl]
    · rw [xmE_nz hk hu h0, if_pos rfl]
      cases r with
      | nil => rw [e2, if_neg (show ¬ fvX [] (xmV k u) = zero32 from xmV_nzX h0)]; rfl
      | cons k' r => rw [e2]; exact chR_fvX r k' (xmV k u) hr (xmV_length _ _)
theorem fvX_perm {ks ks' : List (List (BitVec 8))} (hp : ks.Perm ks') : (∀ k ∈ ks, k.length = 32) → ∀ u : List (BitVec 8), u.length = 32 → fvX ks u = fvX ks' u := by
  induction hp with
  | nil => intro _ _ _; rfl
  | cons x _ ih => intro h u hu; exact ih (fun k hk => h k (List.mem_cons_of_mem _ hk)) (xmV x u) (xmV_length _ _)
  | swap x y l =>
    intro h u hu
    show fvX l (xmV x (xmV y u)) = fvX l (xmV y (xmV x u))
    rw [xmV_comm (h y (by simp)) (h x (by simp)) hu]
  | trans p1 _ ih1 ih2 => intro h u hu; rw [ih1 h u hu, ih2 (fun k hk => h k (p1.mem_iff.2 hk)) u hu]
theorem all32_of {ks : List (List (BitVec 8))} : all32 ks = true ↔ ∀ k ∈ ks, k.length = 32 := by
  unfold all32
  rw [List.all_eq_true]
  exact ⟨fun h k hk => by have := h k hk; simpa using this, fun h k hk => by have := h k hk; simpa using this⟩
theorem chP_perm {u : List (BitVec 8)} {ks ks' : List (List (BitVec 8))} (hp : ks.Perm ks') : chP u ks = chP u ks' := by
  by_cases h : u.length = 32 ∧ all32 ks = true
  · have hk := all32_of.1 h.2
    have hk' : ∀ k ∈ ks', k.length = 32 := fun k hx => hk k (hp.mem_iff.2 hx)
    have e1 : chP u ks = chR ks (leB 32 (readN u)) := if_pos h
    have e2 : chP u ks' = chR ks' (leB 32 (readN u)) := if_pos ⟨h.1, all32_of.2 hk'⟩
    rw [e1, e2]
    cases ks with
    | nil => rw [hp.nil_eq]
    | cons k r =>
      cases ks' with
      | nil => exact absurd hp.symm.nil_eq (by simp)
      | cons k' r' => rw [chR_fvX r k _ hk (leB_length 32 _), chR_fvX r' k' _ hk' (leB_length 32 _), fvX_perm hp hk _ (leB_length 32 _)]
  · have e1 : chP u ks = (zero32, 2) := if_neg h
    have e2 : chP u ks' = (zero32, 2) := if_neg fun h2 => h ⟨h2.1, all32_of.2 fun k hk => all32_of.1 h2.2 k (hp.mem_iff.1 hk)⟩
    rw [e1, e2]
theorem chP_cases {u : List (BitVec 8)} {ks : List (List (BitVec 8))} (hu : u.length = 32) (hk : ∀ k ∈ ks, k.length = 32) : (∃ r, r < 57896044618658097711785492504343953926634992332820282019728792003956564819949 ∧ chP u ks = (leB 32 r, 0) ∧ (ks ≠ [] → xmE zero32 u = 0)) ∨ chP u ks = (zero32, 5) := by
  have e1 : chP u ks = chR ks (leB 32 (readN u)) := if_pos ⟨hu, all32_of.2 hk⟩
  have hr := readN_ltK hu
  have hX : ∀ k : List (BitVec 8), k.length = 32 → xmN k (leB 32 (readN u)) = xmN k u := fun k hk32 => by rw [xmN_eq hk32 (leB_length 32 _), readN_leB hr, xmN_eq hk32 hu]
  have hAl := leB_length 32 (readN u)
  rw [e1]
  obtain ⟨A, hA⟩ : ∃ A, A = leB 32 (readN u) := ⟨_, rfl⟩
  rw [← hA] at hX hAl ⊢
  cases ks with
  | nil => exact .inl ⟨readN u, hr, by rw [← hA]; rfl, fun h => absurd rfl h⟩
  | cons k r =>
    have hk32 := hk k (by simp)
    rw [chR_fvX r k _ hk hAl]
    by_cases h : fvX (k :: r) A = zero32
    · rw [if_pos h]; exact .inr rfl
    · rw [if_neg h]
      obtain ⟨n, hn, e⟩ := fvX_num r k A
      refine .inl ⟨n, hn, by rw [e], fun _ => ?_⟩
      have hz : zero32.length = 32 := List.length_replicate
      refine xmE_nz hz hu fun h0 => h ?_
      have e2 : fvX (k :: r) A = fvX r (xmV k A) := rfl
      rw [e2, xmV_zeroX (by rw [hX k hk32]; exact xm_low hz hk32 hu h0)]
      exact fvX_zero fun x hx => hk x (List.mem_cons_of_mem _ hx)

/-! ## Noughts behind a row -/
section
variable {P : Program} {N : Nat} {w0 : World} {D : Blocks} {e : List (Nat × Value)} {M : List (Nat × Ck)} {o : Oper}
theorem run_append_zeros (w : World) (t u ty E : TypeId) (i : TypeInfo) (z : Value) {kd : IntKind} (ht : P.underlying t = some (.slice E)) (hu : P.underlying u = some (.int kd)) (hi : P.info? E = some i) (hz : i.zero = some z) (base : Option Addr) (sLen sCap n : Nat) (olds : List Value)
    (hold : (Builtin.firstCells i.size sLen (.slice base sLen sCap)).run P w.drew = .ok olds.toArray w.drew) (hn0 : ¬ n * i.size = 0)
    (hg : sCap < sLen + n) (h63 : ((sLen + n : Nat) : Int) ≤ 9223372036854775807) (hn48 : n * i.bytes ≤ 281474976710656) (hfit : Builtin.nextslicecap (sLen + n) sCap * i.bytes ≤ 281474976710656) :
    (Builtin.append_ #[t, u] ty #[.slice base sLen sCap, .int .i64 (n : Int)]).run P w =
      .ok (.slice (some ⟨w.heap.size, 0, none⟩) (sLen + n) (grownCap w (sLen + n) sCap E))
        (w.drew.alloc (.cells (olds.toArray ++ Builtin.zeroCells z.cells n ++ Builtin.zeroCells z.cells (grownCap w (sLen + n) sCap E - (sLen + n))) E)) := by
  have hn : ¬ (sLen + n ≤ sCap) := by omega
  have h63' : ¬ (9223372036854775807 < ((sLen : Int) + (n : Int))) := by omega
  have h48' : ¬ (281474976710656 < Builtin.nextslicecap (sLen + n) sCap * i.bytes) := by omega
  have e1 : IntKind.i64.wrap (n : Int) = (n : Int) := IntWalk.i64_in _ (by omega)
  have e2 : ¬ ((n : Int) < 0) := by omega
  have e3 : ¬ ((281474976710656 : Int) < (n : Int) * (i.bytes : Int)) := by
    have : ((n * i.bytes : Nat) : Int) = (n : Int) * (i.bytes : Int) := by simp
    omega
  have hn1 : ¬ n = 0 := fun h => hn0 (by rw [h]; simp)
  have hn2 : ¬ i.size = 0 := fun h => hn0 (by rw [h]; simp)
  simp [Builtin.append_, run_underlying ht, run_underlying hu, sizeOf, typeInfo, zeroValue, hi, hz, hn, h63', h48', Question.forced, hold, newRow, grownCap, asInt, asIntOf, e1, e2, e3, hn1, hn2]
  exact fun h => absurd h hn0

theorem zeroCells_one (v : Value) (h : v.cells = #[v]) (n : Nat) : Builtin.zeroCells v.cells n = (List.replicate n v).toArray := by
  apply Array.ext'
  rw [h]
  simp only [Builtin.zeroCells, Array.toList_map, Array.toList_range]
  apply List.ext_getElem?
  intro i
  by_cases hi : i < n
  · simp [hi, Nat.mod_one]
  · rw [List.getElem?_eq_none (by simp; omega), List.getElem?_eq_none (by simp; omega)]

theorem lo_appendZ {t u E : TypeId} {x y : Operand} {b m n by' : Nat} {l : List (BitVec 8)} {kd : IntKind} {z : Value} (tag : Nat) [ht : Und P t (.slice E)] [hu : Und P u (.int kd)] [hs : Siz P E 1] [hzz : Zer P E z] [hb : Byt P E by'] (hz : z = b8 0#8) (hM : mget M tag = some (.pt b (.cells (bs l).toArray E (0, 0))))
    (ho : o.op = .call ⟨.builtin .append, #[x, y], #[t, u]⟩) (hx : ev e x = some (.slice (some ⟨b, 0, none⟩) m m)) (hy : ev e y = some (.int .i64 (n : Int))) (hl : l.length = m) (h0 : 0 < n) (hb1 : (m + n) * by' ≤ 140737488355328) (hmn : m + n ≤ 140737488355328) :
    Lo P N w0 D e M o (σ := Ow) (fun _ => True) (fun r => r.sl (m + n)) (fun r => [r.ck E 1 (bs (l ++ List.replicate n 0#8))]) := fun a w hs' hm => by
  obtain ⟨i, hi, hsz, hz', hby⟩ := info_of (P := P) (E := E)
  subst hz
  have hbk : w.heap[b]? = some (.cells (bs l).toArray E (0, 0)) := hm.holds _ _ hM
  have hold : (Builtin.firstCells i.size m (.slice (some ⟨b, 0, none⟩) m m)).run P w.drew = .ok (bs l).toArray w.drew := by
    refine run_firstCells_some w.drew i.size m ⟨b, 0, none⟩ m m (bs l) (by rw [bs_length, hl, hsz, Nat.mul_one]) fun j v hj => ?_
    have h1 : w.cell? ((⟨b, 0, none⟩ : Addr).add j) = some v := by
      rw [Addr.add_lit, cell_pt hbk]
      simpa using hj
    simpa using h1
  have hcapge := grownCap_ge w (m + n) m E
  have hcaple := grownCap_le_maxLen w (m + n) m E (by unfold maxLen; omega)
  have hnb : n * i.bytes ≤ 281474976710656 := by
    rw [hby]
    have : n * by' ≤ (m + n) * by' := Nat.mul_le_mul_right _ (by omega)
    omega
  have hr := run_append_zeros (P := P) w t u o.type E i (b8 0#8) ht.h hu.h hi hz' (some ⟨b, 0, none⟩) m m n (bs l) hold (by rw [hsz]; omega) (by omega) (by omega) hnb (growslice_fits (by omega) (by rw [hby]; exact hb1))
  have hc : (b8 0#8).cells = #[b8 0#8] := rfl
  rw [zeroCells_one _ hc, zeroCells_one _ hc] at hr
  have hrow : ((bs l).toArray ++ (List.replicate n (b8 0#8)).toArray ++ (List.replicate (grownCap w (m + n) m E - (m + n)) (b8 0#8)).toArray) = (bs (l ++ List.replicate n 0#8) ++ List.replicate (grownCap w (m + n) m E - (m + n)) (b8 0#8)).toArray := by
    rw [bs_append]
    apply Array.ext'
    simp [bs]
  rw [hrow] at hr
  refine ⟨⟨some ⟨w.heap.size, 0, none⟩, grownCap w (m + n) m E⟩, w.drew.alloc (.cells (bs (l ++ List.replicate n 0#8) ++ List.replicate (grownCap w (m + n) m E - (m + n)) (b8 0#8)).toArray E), trivial, ?_, ⟨rfl, rfl, rfl, by simp, fun j hj _ => heap_alloc_old w.drew _ hj, fun c hc' => ?_, fun c hc' => ?_, fun c hc' j hj => ?_, fun c hc' j hj => ?_, by simp⟩⟩
  · simp only [execOp, ho, resolve, invoke, builtin, Sem.run_bind, Sem.run_pure, Result.andThen_ok, List.map_toArray, List.map_cons, List.map_nil, hs'.eval hx, hs'.eval hy]
    rw [hr]
    rfl
  · obtain rfl := List.mem_singleton.1 hc'
    refine .inr ⟨w.heap.size, List.replicate (grownCap w (m + n) m E - (m + n)) (b8 0#8), rfl, ?_, ?_, ?_⟩
    · show (w.drew.alloc _).heap[w.drew.heap.size]? = _
      rw [heap_alloc_new w.drew]
    · simp only [List.length_append, bs_length, List.length_replicate, hl]; omega
    · unfold maxLen at hcaple; omega
  · obtain rfl := List.mem_singleton.1 hc'
    exact Own.loc
  · obtain rfl := List.mem_singleton.1 hc'
    have : j = w.heap.size := At.some.1 hj
    exact .inl (by omega)
  · obtain rfl := List.mem_singleton.1 hc'
    have : j = w.heap.size := At.some.1 hj
    simp [this]
end

/-! ## Swaps -/
theorem els_perm {Q : Value → List (BitVec 8) → Prop} {L : List Value} {ls : List (List (BitVec 8))} {z : List (Value × List (BitVec 8))} (h : All2 Q L ls) (hp : z.Perm (L.zip ls)) : All2 Q (z.map (·.1)) (z.map (·.2)) := by
  refine ⟨by rw [List.length_map, List.length_map], fun i v l hv hl => ?_⟩
  rw [List.getElem?_map, Option.map_eq_some_iff] at hv hl
  obtain ⟨x, hx, rfl⟩ := hv
  obtain ⟨y, hy, rfl⟩ := hl
  rw [hx] at hy
  cases hy
  have hm := hp.mem_iff.1 (List.mem_of_getElem? hx)
  obtain ⟨j, hj⟩ := List.getElem?_of_mem hm
  rw [List.getElem?_zip_eq_some] at hj
  exact h.2 j _ _ hj.1 hj.2
theorem zip_snd {L : List Value} {ls : List (List (BitVec 8))} {z : List (Value × List (BitVec 8))} (hl : L.length = ls.length) (hp : z.Perm (L.zip ls)) : (z.map (·.2)).Perm ls := by
  have h := hp.map (·.2)
  rwa [List.map_snd_zip (by omega)] at h

theorem place_b (w : World) (i n : Nat) (s : Int) (hn : 0 < n) : Spec Try.prog 100 #[.int .i64 (i : Int), .int .i64 s, .int .i64 (n : Int)] w (σ := Nat × Nat) (fun x => x.1 < n ∧ x.2 < n) (fun x => .tuple #[.int .i64 (x.1 : Int), .int .i64 (x.2 : Int)]) Nob (fun _ => []) := by
  refine enter Try.func100 rfl rfl (Mem.start w) ?_
  (repeat refine g_seq ?_)
  refine g_region ?_
  refine g_pu rfl rfl rfl (pu_assign rfl rfl) ?_
  refine g_pu rfl rfl rfl (pu_assign rfl rfl) ?_
  refine g_nil ?_
  by_cases hs : s < 0
  · (repeat refine g_seq ?_)
    refine g_region ?_
    refine g_pu rfl rfl rfl (pu_move rfl rfl) ?_
    refine g_pu rfl rfl rfl (pu_lss_t rfl rfl rfl hs) ?_
    refine g_nil ?_
    (repeat refine g_seq ?_)
    refine g_cond_t rfl ?_
    (repeat refine g_seq ?_)
    refine g_region ?_
    refine g_pu rfl rfl rfl (pu_assign rfl rfl) ?_
    refine g_pu rfl rfl rfl (pu_assign rfl rfl) ?_
    refine g_nil ?_
    exact g_ret2 rfl rfl rfl (fun w' hm => ⟨(0, 0), ⟨hn, hn⟩, rfl, hm.grows [] trivial rfl⟩)
  · obtain ⟨s', rfl⟩ := Int.eq_ofNat_of_zero_le (show 0 ≤ s by omega)
    (repeat refine g_seq ?_)
    refine g_region ?_
    refine g_pu rfl rfl rfl (pu_move rfl rfl) ?_
    refine g_pu rfl rfl rfl (pu_lss_f rfl rfl rfl hs) ?_
    refine g_nil ?_
    (repeat refine g_seq ?_)
    refine g_cond_f rfl (g_skip ?_)
    (repeat refine g_seq ?_)
    refine g_any (8, []) ?_
    refine a_pu 0 rfl rfl rfl rfl (pu_move rfl rfl) rfl rfl (by kernel_rfl) ?_
    refine a_pu 1 rfl rfl rfl rfl (pu_move rfl rfl) rfl rfl (by kernel_rfl) ?_
    refine a_pu 2 rfl rfl rfl rfl (pu_remI rfl rfl rfl (by omega)) rfl rfl (by kernel_rfl) ?_
    refine a_pu 3 rfl rfl rfl rfl (pu_move rfl rfl) rfl rfl (by kernel_rfl) ?_
    refine a_pu 4 rfl rfl rfl rfl (pu_move rfl rfl) rfl rfl (by kernel_rfl) ?_
    refine a_pu 5 rfl rfl rfl rfl (pu_remI rfl rfl rfl (by omega)) rfl rfl (by kernel_rfl) ?_
    refine a_pu 6 rfl rfl rfl rfl (pu_assign rfl rfl) rfl rfl (by kernel_rfl) ?_
    refine a_pu 7 rfl rfl rfl rfl (pu_assign rfl rfl) rfl rfl (by kernel_rfl) ?_
    refine a_done (by kernel_rfl) ?_
    exact g_ret2 rfl rfl rfl (fun w' hm => ⟨(i % n, s' % n), ⟨Nat.mod_lt _ hn, Nat.mod_lt _ hn⟩, rfl, hm.grows [] trivial rfl⟩)

theorem swapped_b (w : World) {q r : Option Addr} {m k : Nat} (d f : Nat) {L : List Value} {ls : List (List (BitVec 8))} {ns : List Int} (ha : ByL w q m L ls) (hr : RdV w r (is ns)) (hk : ns.length = k) (hk2 : k ≤ 9223372036854775807) (hm4 : m ≤ 4096) : Spec Try.prog 61 #[.slice q m d, .slice r k f] w (σ := Ow × List (Value × List (BitVec 8))) (fun x => x.2.Perm (L.zip ls)) (fun x => x.1.sl m) Nob (fun x => [x.1.ck 26 1 (x.2.map (·.1))]) := by
  refine enter Try.func61 rfl rfl (Mem.start w) ?_
  have hl := ha.len
  have hll := ha.lenL
  have hone := ha.one
  have hzl : (L.zip ls).length = m := by rw [List.length_zip, hl, hll]; exact Nat.min_self m
  have hzf : (L.zip ls).map (·.1) = L := List.map_fst_zip (by omega)
  have hil := is_length ns
  (repeat refine g_seq ?_)
  refine g_region ?_
  refine g_pu rfl rfl rfl (pu_assign rfl rfl) ?_
  refine g_nil ?_
  (repeat refine g_seq ?_)
  refine g_region ?_
  refine g_lo [10] rfl rfl rfl rfl (lo_buildSlice0 rfl) (fun b10 hb10 => ?_)
  refine g_own 10 (L := []) (J := []) (c := 0) (s := 1) rfl (by simp) (by omega) ?_
  refine g_pu rfl rfl rfl (pu_move rfl rfl) ?_
  refine g_append1 10 L rfl rfl rfl rfl rfl rfl rfl rfl rfl (fun w' hm => (ha.m hm).rd) hl hone (by omega) (by omega) (fun p' c' => ?_)
  rw [Nat.zero_add, List.nil_append]
  refine g_pu rfl rfl rfl (pu_assign rfl rfl) ?_
  refine g_nil ?_
  (repeat refine g_seq ?_)
  refine g_region ?_
  refine g_pu rfl rfl rfl (pu_move rfl rfl) ?_
  first | refine g_pu rfl rfl rfl (pu_len rfl rfl) ?_ | refine g_pu rfl rfl rfl (pu_lenS rfl rfl) ?_
  refine g_pu rfl rfl rfl (pu_move rfl rfl) ?_
  refine g_nil ?_
  (repeat refine g_seq ?_)
  refine g_block (g_loop2 (fun (i : Nat) (z : List (Value × List (BitVec 8))) => [(5, .slice p' m c'), (13, .slice r k f), (14, .int .i64 (k : Int)), (15, .int .i64 (i : Int))]) (fun i z => [(10, .fact (At p') (Own 26 1 p' c' (z.map (·.1))))]) (fun i z => i ≤ k ∧ z.Perm (L.zip ls)) (fun i _ => k - i) 0 (L.zip ls) ⟨rfl, rfl, rfl, rfl, trivial⟩ ⟨by rw [hzf]; rfl, trivial⟩ ⟨by omega, .refl _⟩ ?_)
  intro i z ⟨hi, hz⟩
  have hzm : z.length = m := by rw [hz.length_eq, hzl]
  by_cases hlt : i < k
  · (repeat refine g_seq ?_)
    refine g_region ?_
    first | refine g_pu rfl rfl rfl (pu_lss_t rfl rfl rfl (by omega)) ?_ | refine g_pu rfl rfl rfl (pu_lss_f rfl rfl rfl (by omega)) ?_ | refine g_pu rfl rfl rfl (pu_lss rfl rfl rfl) ?_
    refine g_nil ?_
    (repeat refine g_seq ?_)
    refine g_cond_t rfl (g_skip ?_)
    have h1 : ns[i]? = some ns[i] := List.getElem?_eq_getElem (by omega)
    generalize ns[i] = s at h1
    (repeat refine g_seq ?_); refine g_block ?_
    (repeat refine g_seq ?_)
    refine g_region ?_
    refine g_pu rfl rfl rfl (pu_move rfl rfl) ?_
    refine g_pu rfl rfl rfl (pu_atM1 i (L := is ns) (fun w' hm => hr.mem0 hm) rfl rfl rfl rfl hlt (by omega)) ?_
    refine g_pu rfl rfl rfl (pu_rdM (L := is ns) (fun w' hm => hr.mem0 hm) rfl rfl (is_get h1)) ?_
    refine g_pu rfl rfl rfl (pu_assign rfl rfl) ?_
    refine g_pu rfl rfl rfl (pu_assign rfl rfl) ?_
    refine g_nil ?_
    by_cases hm0 : m = 0
    · (repeat refine g_seq ?_)
      refine g_region ?_
      refine g_pu rfl rfl rfl (pu_move rfl rfl) ?_
      first | refine g_pu rfl rfl rfl (pu_len rfl rfl) ?_ | refine g_pu rfl rfl rfl (pu_lenS rfl rfl) ?_
      refine g_pu rfl rfl rfl (pu_gtr_f rfl rfl rfl (by omega)) ?_
      refine g_nil ?_
      (repeat refine g_seq ?_)
      refine g_cond_f rfl (g_skip ?_)
      refine g_blk ?_
      (repeat refine g_seq ?_)
      refine g_region ?_
      refine g_pu rfl rfl rfl (pu_addI rfl rfl rfl (by omega)) ?_
      refine g_pu rfl rfl rfl (pu_move rfl rfl) ?_
      refine g_nil ?_
      exact g_round2 (i + 1) z ⟨by omega, hz⟩ (by omega) ⟨rfl, rfl, rfl, rfl, trivial⟩ ⟨rfl, trivial⟩
    · (repeat refine g_seq ?_)
      refine g_region ?_
      refine g_pu rfl rfl rfl (pu_move rfl rfl) ?_
      first | refine g_pu rfl rfl rfl (pu_len rfl rfl) ?_ | refine g_pu rfl rfl rfl (pu_lenS rfl rfl) ?_
      refine g_pu rfl rfl rfl (pu_gtr_t rfl rfl rfl (by omega)) ?_
      refine g_nil ?_
      (repeat refine g_seq ?_)
      refine g_cond_t rfl ?_
      (repeat refine g_seq ?_)
      refine g_region ?_
      refine g_pu rfl rfl rfl (pu_move rfl rfl) ?_
      refine g_pu rfl rfl rfl (pu_move rfl rfl) ?_
      refine g_pu rfl rfl rfl (pu_move rfl rfl) ?_
      first | refine g_pu rfl rfl rfl (pu_len rfl rfl) ?_ | refine g_pu rfl rfl rfl (pu_lenS rfl rfl) ?_
      refine g_call [] rfl rfl rfl rfl rfl rfl (fun w' hm => place_b w' i m s (by omega)) (fun x28 h28 => ?_)
      refine g_pu rfl rfl rfl (pu_move rfl rfl) ?_
      refine g_pu rfl rfl rfl (pu_extract rfl rfl rfl) ?_
      refine g_pu rfl rfl rfl (pu_extract rfl rfl rfl) ?_
      refine g_pu rfl rfl rfl (pu_assign rfl rfl) ?_
      refine g_pu rfl rfl rfl (pu_assign rfl rfl) ?_
      refine g_nil ?_
      obtain ⟨a, b⟩ := x28
      dsimp only at h28 ⊢
      obtain ⟨haM, hbM⟩ := h28
      have hza : z[a]? = some z[a] := List.getElem?_eq_getElem (by omega)
      have hzb : z[b]? = some z[b] := List.getElem?_eq_getElem (by omega)
      have hperm : ((z.set a z[b]).set b z[a]).Perm z := List.set_set_perm (by omega) (by omega)
      generalize z[a] = va at hza hperm
      generalize z[b] = vb at hzb hperm
      have hmem : ∀ v, v ∈ z → v.1.oneCell' = true := fun v hv => by
        have h2 := hz.mem_iff.1 hv
        exact hone _ (List.of_mem_zip (a := v.1) (b := v.2) h2).1
      have hva := hmem va (List.mem_of_getElem? hza)
      have hvb := hmem vb (List.mem_of_getElem? hzb)
      have hzml : (z.map (·.1)).length = m := by rw [List.length_map, hzm]
      have hset : ∀ J : List Value, ((z.map (·.1) ++ J).set (0 + a) vb.1).set (0 + b) va.1 = ((z.set a vb).set b va).map (·.1) ++ J := fun J => by
        rw [Nat.zero_add, Nat.zero_add, List.set_append_left _ _ (by omega), List.set_append_left _ _ (by rw [List.length_set]; omega), List.map_set, List.map_set]
      have hga : ∀ J : List Value, (z.map (·.1) ++ J).toArray[0 + a]? = some va.1 := fun J => by
        rw [Nat.zero_add, List.getElem?_toArray, List.getElem?_append_left (by omega), List.getElem?_map, hza]; rfl
      have hgb : ∀ J : List Value, (z.map (·.1) ++ J).toArray[0 + b]? = some vb.1 := fun J => by
        rw [Nat.zero_add, List.getElem?_toArray, List.getElem?_append_left (by omega), List.getElem?_map, hzb]; rfl
      (repeat refine g_seq ?_)
      refine g_row 10 rfl (by omega) (fun bb J hp hJ hcap => ?_)
      subst hp
      (repeat refine g_seq ?_)
      refine g_any (13, [2, 3]) ?_
      refine a_pu 0 rfl rfl rfl rfl (pu_move rfl rfl) rfl rfl (by kernel_rfl) ?_
      refine a_pu 1 rfl rfl rfl rfl (pu_move rfl rfl) rfl rfl (by kernel_rfl) ?_
      first | refine a_mv 2 rfl rfl rfl rfl (fun _ => (pu_move rfl rfl)) rfl rfl rfl (by kernel_rfl) (by kernel_rfl) (by kernel_rfl) rfl ?_
      first | refine a_mv 3 rfl rfl rfl rfl (fun _ => (pu_move rfl rfl)) rfl rfl rfl (by kernel_rfl) (by kernel_rfl) (by kernel_rfl) rfl ?_
      refine a_pu 4 rfl rfl rfl rfl (pu_move rfl rfl) rfl rfl (by kernel_rfl) ?_
      refine a_pu 5 rfl rfl rfl rfl (pu_move rfl rfl) rfl rfl (by kernel_rfl) ?_
      refine a_pu 6 rfl rfl rfl rfl (pu_at1 b rfl rfl rfl rfl hbM) rfl rfl (by kernel_rfl) ?_
      refine a_pu 7 rfl rfl rfl rfl (pu_load 10 rfl rfl rfl (hgb J)) rfl rfl (by kernel_rfl) ?_
      refine a_pu 8 rfl rfl rfl rfl (pu_move rfl rfl) rfl rfl (by kernel_rfl) ?_
      refine a_pu 9 rfl rfl rfl rfl (pu_move rfl rfl) rfl rfl (by kernel_rfl) ?_
      refine a_pu 10 rfl rfl rfl rfl (pu_at1 a rfl rfl rfl rfl haM) rfl rfl (by kernel_rfl) ?_
      refine a_pu 11 rfl rfl rfl rfl (pu_load 10 rfl rfl rfl (hga J)) rfl rfl (by kernel_rfl) ?_
      refine a_pu 12 rfl rfl rfl rfl (pu_at1 a rfl rfl rfl rfl haM) rfl rfl (by kernel_rfl) ?_
      refine a_tail [13, 14, 15] (by kernel_rfl) rfl rfl (by kernel_rfl) ?_
      refine g_store 10 (v := vb.1) rfl rfl rfl rfl rfl rfl hvb (by rw [List.length_append]; omega) ?_
      refine g_pu rfl rfl rfl (pu_at1 b rfl rfl rfl rfl hbM) ?_
      refine g_store 10 (v := va.1) rfl rfl rfl rfl rfl rfl hva (by rw [List.length_set, List.length_append]; omega) ?_
      rw [hset J]
      refine g_nil ?_
      refine g_own 10 (L := ((z.set a vb).set b va).map (·.1)) (J := J) (c := c') (s := 1) rfl (by simp only [List.length_append, List.length_map, List.length_set] at hJ ⊢; omega) hcap ?_
      refine g_blk ?_
      (repeat refine g_seq ?_)
      refine g_region ?_
      refine g_pu rfl rfl rfl (pu_addI rfl rfl rfl (by omega)) ?_
      refine g_pu rfl rfl rfl (pu_move rfl rfl) ?_
      refine g_nil ?_
      exact g_round2 (i + 1) ((z.set a vb).set b va) ⟨by omega, hperm.trans hz⟩ (by omega) ⟨rfl, rfl, rfl, rfl, trivial⟩ ⟨rfl, trivial⟩
  · (repeat refine g_seq ?_)
    refine g_region ?_
    first | refine g_pu rfl rfl rfl (pu_lss_t rfl rfl rfl (by omega)) ?_ | refine g_pu rfl rfl rfl (pu_lss_f rfl rfl rfl (by omega)) ?_ | refine g_pu rfl rfl rfl (pu_lss rfl rfl rfl) ?_
    refine g_nil ?_
    (repeat refine g_seq ?_)
    refine g_cond_f rfl (g_exit rfl ?_)
    (repeat refine g_seq ?_)
    refine g_region ?_
    refine g_pu rfl rfl rfl (pu_move rfl rfl) ?_
    refine g_pu rfl rfl rfl (pu_assign rfl rfl) ?_
    refine g_nil ?_
    exact g_ret1 rfl rfl (fun w' hm => ⟨(⟨p', c'⟩, z), hz, rfl, hm.grows [10] ⟨rfl, trivial⟩ rfl⟩)
end Go.Sx

import Derived.Test.YtfbcmndhjoebbaaZdD1
set_option linter.unusedVariables false
set_option linter.unusedSimpArgs false
/-
  Directories: in form, and each name and number once. A directory fits memory.
-/
namespace Go.Sx
open Go Go.Proofs

def nodsC (hs : List Hop) : List Value := (hs.map nodeC).flatten
theorem nodsC_length : ∀ {hs : List Hop}, (∀ h ∈ hs, h.ok) → (nodsC hs).length = hs.length * 66
  | [], _ => rfl
  | x :: r, h => by
    have ih := nodsC_length (hs := r) (fun y hy => h y (List.mem_cons_of_mem _ hy))
    unfold nodsC at ih ⊢
    rw [List.map_cons, List.flatten_cons, List.length_append, ih, nodeC_length (h x (by simp)), List.length_cons]; omega
theorem nodsC_append (a b : List Hop) : nodsC (a ++ b) = nodsC a ++ nodsC b := by simp [nodsC]
theorem nodsC_one (a : Hop) : nodsC [a] = nodeC a := by simp [nodsC]
theorem nodsC_at {hs : List Hop} {i : Nat} {x : Hop} (h : hs[i]? = some x) : nodsC (hs.take (i + 1)) = nodsC (hs.take i) ++ nodeC x := by
  rw [List.take_add_one, h, nodsC_append]
  show _ ++ nodsC [x] = _
  rw [nodsC_one]
theorem nodsC_split {hs : List Hop} {i : Nat} {x : Hop} (h : hs[i]? = some x) : nodsC hs = nodsC (hs.take i) ++ (nodeC x ++ nodsC (hs.drop (i + 1))) := by
  rw [← List.append_assoc, ← nodsC_at h, ← nodsC_append, List.take_append_drop]
theorem nodsC_take {hs : List Hop} {i : Nat} (hm : ∀ x ∈ hs, x.ok) (hi : i ≤ hs.length) : (nodsC (hs.take i)).length = i * 66 := by
  rw [nodsC_length (fun x hx => hm x (List.mem_of_mem_take hx)), List.length_take, Nat.min_eq_left hi]
theorem nodsC_get {hs : List Hop} {i : Nat} {x : Hop} (hm : ∀ x ∈ hs, x.ok) (h : hs[i]? = some x) : ((nodsC hs).drop (i * 66)).take 66 = nodeC x := by
  have hi := (List.getElem?_eq_some_iff.1 h).1
  rw [nodsC_split h, List.drop_left' (nodsC_take hm (by omega)), List.take_left' (nodeC_length (hm x (List.mem_of_getElem? h)))]
theorem nodsC_cell {hs : List Hop} {i j : Nat} {x : Hop} {v : Value} (hm : ∀ x ∈ hs, x.ok) (h : hs[i]? = some x) (hj : (nodeC x)[j]? = some v) : (nodsC hs)[i * 66 + j]? = some v := by
  have hi := (List.getElem?_eq_some_iff.1 h).1
  have hl := nodsC_take hm (show i ≤ hs.length by omega)
  have hlt := (List.getElem?_eq_some_iff.1 hj).1
  rw [nodsC_split h, List.getElem?_append_right (by omega), hl, show i * 66 + j - i * 66 = j by omega, List.getElem?_append_left hlt, hj]
theorem node_0 (x : Hop) : (nodeC x)[0]? = some (.string x.name) := rfl
theorem node_1 (x : Hop) : (nodeC x)[1]? = some (b64 x.id) := rfl
theorem node_pv {x : Hop} (ho : x.ok) : ((nodeC x).drop 2).take 32 = bs x.pv := by
  show ((bs x.pv ++ bs x.pb)).take 32 = _
  exact List.take_left' (by rw [bs_length, ho.1])
theorem node_pb {x : Hop} (ho : x.ok) : ((nodeC x).drop 34).take 32 = bs x.pb := by
  show ((bs x.pv ++ bs x.pb).drop 32).take 32 = _
  rw [List.drop_left' (by rw [bs_length, ho.1])]
  exact List.take_of_length_le (by rw [bs_length, ho.2]; omega)
theorem oneCell_node (h : Hop) : ∀ u ∈ nodeC h, u.oneCell' = true := fun u hu => oneCell_hop h u (List.mem_append_left _ hu)
theorem oneCell_nods (hs : List Hop) : ∀ u ∈ nodsC hs, u.oneCell' = true := fun u hu => by
  obtain ⟨l, hl, hu2⟩ := List.mem_flatten.1 hu
  obtain ⟨x, _, rfl⟩ := List.mem_map.1 hl
  exact oneCell_node x u hu2

def okN (x : Hop) : Bool := nameOk (bytesOf x.name) && !decide (x.id = 0#64)
/-- Each name and number stands once. -/
def OnceN (hs : List Hop) : Prop := ∀ (a b : Nat) (x y : Hop), b < a → hs[a]? = some x → hs[b]? = some y → x.name ≠ y.name ∧ x.id ≠ y.id
open Classical in
noncomputable def chkN (hs : List Hop) : Int := if 64 < hs.length then 2 else if hs.all okN = false then 3 else if OnceN hs then 0 else 4
theorem chkN_2 {hs : List Hop} (h : 64 < hs.length) : chkN hs = 2 := if_pos h
theorem chkN_3 {hs : List Hop} (h : ¬ 64 < hs.length) {x : Hop} (hx : x ∈ hs) (hb : okN x = false) : chkN hs = 3 := by
  have h2 : hs.all okN = false := by
    cases h3 : hs.all okN
    · rfl
    · have := List.all_eq_true.1 h3 x hx
      rw [hb] at this; cases this
  unfold chkN
  rw [if_neg h, if_pos h2]
theorem chkN_4 {hs : List Hop} (h : ¬ 64 < hs.length) (ha : ∀ x ∈ hs, okN x = true) (ho : ¬ OnceN hs) : chkN hs = 4 := by
  unfold chkN
  rw [if_neg h, if_neg (by rw [List.all_eq_true.2 ha]; simp), if_neg ho]
theorem chkN_0 {hs : List Hop} (h : ¬ 64 < hs.length) (ha : ∀ x ∈ hs, okN x = true) (ho : OnceN hs) : chkN hs = 0 := by
  unfold chkN
  rw [if_neg h, if_neg (by rw [List.all_eq_true.2 ha]; simp), if_pos ho]
theorem chkN_ok {hs : List Hop} (h : chkN hs = 0) : ¬ 64 < hs.length ∧ (∀ x ∈ hs, okN x = true) ∧ OnceN hs := by
  by_cases h1 : 64 < hs.length
  · rw [chkN_2 h1] at h; omega
  · refine ⟨h1, ?_⟩
    have h2 : ∀ x ∈ hs, okN x = true := fun x hx => by
      cases hb : okN x
      · rw [chkN_3 h1 hx hb] at h; omega
      · rfl
    refine ⟨h2, ?_⟩
    by_cases h3 : OnceN hs
    · exact h3
    · rw [chkN_4 h1 h2 h3] at h; omega
theorem nodup_map {α : Type} (f : Hop → α) (hs : List Hop) : (hs.map f).Nodup ↔ ∀ (a b : Nat) (x y : Hop), b < a → hs[a]? = some x → hs[b]? = some y → f x ≠ f y := by
  unfold List.Nodup
  rw [List.pairwise_iff_getElem]
  constructor
  · intro h a b x y hba hx hy e
    obtain ⟨ha, rfl⟩ := List.getElem?_eq_some_iff.1 hx
    obtain ⟨hb, rfl⟩ := List.getElem?_eq_some_iff.1 hy
    have := h b a (by rw [List.length_map]; exact hb) (by rw [List.length_map]; exact ha) hba
    rw [List.getElem_map, List.getElem_map] at this
    exact this e.symm
  · intro h i j hi hj hij
    rw [List.getElem_map, List.getElem_map]
    rw [List.length_map] at hi hj
    exact fun e => h j i _ _ hij (List.getElem?_eq_getElem hj) (List.getElem?_eq_getElem hi) e.symm
theorem once_iff (hs : List Hop) : OnceN hs ↔ (hs.map Hop.name).Nodup ∧ (hs.map Hop.id).Nodup := by
  rw [nodup_map, nodup_map]
  exact ⟨fun h => ⟨fun a b x y h1 h2 h3 => (h a b x y h1 h2 h3).1, fun a b x y h1 h2 h3 => (h a b x y h1 h2 h3).2⟩, fun h a b x y h1 h2 h3 => ⟨h.1 a b x y h1 h2 h3, h.2 a b x y h1 h2 h3⟩⟩
theorem takeN_mem {hs : List Hop} {i : Nat} {x : Hop} {Q : Hop → Prop} (h : ∀ y ∈ hs.take i, Q y) (hx : hs[i]? = some x) (hq : Q x) : ∀ y ∈ hs.take (i + 1), Q y := fun y hy => by
  rw [List.take_add_one, hx] at hy
  rcases List.mem_append.1 hy with h1 | h1
  · exact h y h1
  · rw [List.mem_singleton.1 h1]; exact hq

theorem DCheck_b (w : World) {p : Option Addr} {n : Nat} (c : Nat) {hs : List Hop} (hp : RdV w p (nodsC hs)) (hn : hs.length = n) (ho : ∀ x ∈ hs, x.ok) : Spec Try.prog 9 #[.slice p n c] w (σ := Unit) (fun _ => True) (fun _ => .int .i64 (chkN hs)) Nob (fun _ => []) := by
  refine enter Try.func9 rfl rfl (Mem.start w) ?_
  have hcl := nodsC_length ho
  (repeat refine g_seq ?_)
  refine g_region ?_
  refine g_pu rfl rfl rfl (pu_assign rfl rfl) ?_
  refine g_nil ?_
  by_cases h64 : 64 < n
  · rw [chkN_2 (by omega)]
    (repeat refine g_seq ?_)
    refine g_region ?_
    refine g_pu rfl rfl rfl (pu_move rfl rfl) ?_
    first | refine g_pu rfl rfl rfl (pu_len rfl rfl) ?_ | refine g_pu rfl rfl rfl (pu_lenS rfl rfl) ?_
    refine g_pu rfl rfl rfl (pu_gtr_t rfl rfl rfl (by omega)) ?_
    refine g_nil ?_
    (repeat refine g_seq ?_)
    refine g_cond_t rfl ?_
    (repeat refine g_seq ?_)
    refine g_region ?_
    refine g_pu rfl rfl rfl (pu_assign rfl rfl) ?_
    refine g_nil ?_
    exact g_ret1 rfl rfl (fun w' hm => ⟨(), trivial, rfl, hm.grows [] trivial rfl⟩)
  (repeat refine g_seq ?_)
  refine g_region ?_
  refine g_pu rfl rfl rfl (pu_move rfl rfl) ?_
  first | refine g_pu rfl rfl rfl (pu_len rfl rfl) ?_ | refine g_pu rfl rfl rfl (pu_lenS rfl rfl) ?_
  refine g_pu rfl rfl rfl (pu_gtr_f rfl rfl rfl (by omega)) ?_
  refine g_nil ?_
  (repeat refine g_seq ?_)
  refine g_cond_f rfl (g_skip ?_)
  (repeat refine g_seq ?_)
  refine g_region ?_
  refine g_lo [10] rfl rfl rfl rfl (lo_makeMap Value.string rfl) (fun b10 hb10 => ?_)
  refine g_lo [11] rfl rfl rfl rfl (lo_makeMap b64 rfl) (fun b11 hb11 => ?_)
  refine g_pu rfl rfl rfl (pu_assign rfl rfl) ?_
  refine g_pu rfl rfl rfl (pu_assign rfl rfl) ?_
  refine g_nil ?_
  (repeat refine g_seq ?_)
  refine g_region ?_
  refine g_pu rfl rfl rfl (pu_move rfl rfl) ?_
  first | refine g_pu rfl rfl rfl (pu_len rfl rfl) ?_ | refine g_pu rfl rfl rfl (pu_lenS rfl rfl) ?_
  refine g_pu rfl rfl rfl (pu_move rfl rfl) ?_
  refine g_nil ?_
  (repeat refine g_seq ?_)
  refine g_block (g_loop3 (fun (i : Nat) (ps : List (ByteArray × Int)) (qs : List (BitVec 64 × Int)) => [(0, .slice p n c), (3, .map (some b10)), (4, .map (some b11)), (12, .slice p n c), (13, .int .i64 (n : Int)), (14, .int .i64 (i : Int))]) (fun i ps qs => [(10, .pt b10 (entM Value.string ps)), (11, .pt b11 (entM b64 qs))]) (fun i ps qs => i ≤ n ∧ Cnt ((hs.take i).map Hop.name) ps ∧ Cnt ((hs.take i).map Hop.id) qs ∧ ∀ x ∈ hs.take i, okN x = true) (fun i _ _ => n - i) 0 [] [] ⟨rfl, rfl, rfl, rfl, rfl, rfl, trivial⟩ ⟨rfl, rfl, trivial⟩ ⟨by omega, Cnt.nil, Cnt.nil, fun _ h => by simp at h⟩ ?_)
  intro i ps qs ⟨hi, hps, hqs, hall⟩
  by_cases hlt : i < n
  · (repeat refine g_seq ?_)
    refine g_region ?_
    first | refine g_pu rfl rfl rfl (pu_lss_t rfl rfl rfl (by omega)) ?_ | refine g_pu rfl rfl rfl (pu_lss_f rfl rfl rfl (by omega)) ?_ | refine g_pu rfl rfl rfl (pu_lss rfl rfl rfl) ?_
    refine g_nil ?_
    (repeat refine g_seq ?_)
    refine g_cond_t rfl (g_skip ?_)
    have h1 : hs[i]? = some hs[i] := List.getElem?_eq_getElem (by omega)
    have hxm : hs[i] ∈ hs := List.getElem_mem _
    generalize hs[i] = x at h1 hxm
    have hxo := ho x hxm
    have hnl := nodeC_length hxo
    have hg := nodsC_get ho h1
    have h0 : (nodeC x).toArray[0 + 0]? = some (.string x.name) := node_0 x
    have h01 : (nodeC x).toArray[0 + 1]? = some (b64 x.id) := node_1 x
    (repeat refine g_seq ?_); refine g_block ?_
    (repeat refine g_seq ?_)
    refine g_region ?_
    refine g_pu rfl rfl rfl (pu_atM i (s := 66) (L := nodsC hs) (fun w' hm => hp.mem0 hm) rfl rfl rfl rfl hlt (by omega)) ?_
    refine g_pu rfl rfl rfl (pu_rdMA (L := nodsC hs) (j := i * 66) (s := 66) (fun w' hm => hp.mem0 hm) rfl rfl (by omega) (by omega)) ?_
    rw [hg]
    refine g_lo [6] rfl rfl rfl rfl (lo_alloc rfl) (fun b6 hb6 => ?_)
    refine g_storeL 6 (s := 66) (C := nodeC x) rfl rfl rfl rfl rfl rfl hnl rfl (oneCell_node x) ?_
    refine g_nil ?_
    cases hna : nameOk (bytesOf x.name)
    · have hbad : okN x = false := by unfold okN; rw [hna]; rfl
      rw [chkN_3 (by omega) hxm hbad]
      (repeat refine g_seq ?_)
      refine g_region ?_
      refine g_pu rfl rfl rfl (pu_fieldAddr (by decide) rfl rfl) ?_
      refine g_pu rfl rfl rfl (pu_load 6 (v := .string x.name) rfl rfl rfl h0) ?_
      refine g_call [] rfl rfl rfl rfl rfl rfl (fun w' hm => named_b w' x.name) (fun _ _ => ?_)
      rw [hna]
      refine g_pu rfl rfl rfl (pu_not rfl rfl) ?_
      refine g_pu rfl rfl rfl (pu_move rfl rfl) ?_
      first | refine g_pass rfl rfl rfl ?_ | refine g_pu rfl rfl rfl (pu_fieldAddr (by decide) rfl rfl) ?_
      first | refine g_pass rfl rfl rfl ?_ | refine g_pu rfl rfl rfl (pu_load 6 rfl rfl rfl rfl) ?_
      first | refine g_pass rfl rfl rfl ?_ | refine g_pu rfl rfl rfl (pu_eql64_t (b := 0#64) rfl rfl rfl (by first | rfl | assumption | decide)) ?_ | refine g_pu rfl rfl rfl (pu_eql64_f (b := 0#64) rfl rfl rfl (by first | assumption | decide)) ?_ | refine g_pu rfl rfl rfl (pu_eql64 (b := 0#64) rfl rfl rfl) ?_
      first | refine g_pu rfl rfl rfl (pu_pick_t rfl rfl rfl) ?_ | refine g_pu rfl rfl rfl (pu_pick_f rfl rfl rfl) ?_
      refine g_nil ?_
      (repeat refine g_seq ?_)
      refine g_cond_t rfl ?_
      (repeat refine g_seq ?_)
      refine g_region ?_
      refine g_pu rfl rfl rfl (pu_assign rfl rfl) ?_
      refine g_nil ?_
      exact g_ret1 rfl rfl (fun w' hm => ⟨(), trivial, rfl, hm.grows [] trivial rfl⟩)
    by_cases hid : x.id = 0#64
    · have hbad : okN x = false := by unfold okN; rw [hid, hna]; rfl
      rw [chkN_3 (by omega) hxm hbad]
      (repeat refine g_seq ?_)
      refine g_region ?_
      refine g_pu rfl rfl rfl (pu_fieldAddr (by decide) rfl rfl) ?_
      refine g_pu rfl rfl rfl (pu_load 6 (v := .string x.name) rfl rfl rfl h0) ?_
      refine g_call [] rfl rfl rfl rfl rfl rfl (fun w' hm => named_b w' x.name) (fun _ _ => ?_)
      rw [hna]
      refine g_pu rfl rfl rfl (pu_not rfl rfl) ?_
      refine g_pu rfl rfl rfl (pu_move rfl rfl) ?_
      first | refine g_pass rfl rfl rfl ?_ | refine g_pu rfl rfl rfl (pu_fieldAddr (by decide) rfl rfl) ?_
      refine g_pu rfl rfl rfl (pu_load 6 (v := b64 x.id) rfl rfl rfl h01) ?_
      refine g_pu rfl rfl rfl (pu_eql64_t (b := 0#64) rfl rfl rfl hid) ?_
      first | refine g_pu rfl rfl rfl (pu_pick_t rfl rfl rfl) ?_ | refine g_pu rfl rfl rfl (pu_pick_f rfl rfl rfl) ?_
      refine g_nil ?_
      (repeat refine g_seq ?_)
      refine g_cond_t rfl ?_
      (repeat refine g_seq ?_)
      refine g_region ?_
      refine g_pu rfl rfl rfl (pu_assign rfl rfl) ?_
      refine g_nil ?_
      exact g_ret1 rfl rfl (fun w' hm => ⟨(), trivial, rfl, hm.grows [] trivial rfl⟩)
    have hok : okN x = true := by unfold okN; rw [hna, decide_eq_false hid]; rfl
    have hpl := hps.le x.name
    have hql := hqs.le x.id
    have hps2 := hps.snoc x.name
    have hqs2 := hqs.snoc x.id
    have htl : (hs.take i).length = i := by rw [List.length_take]; omega
    rw [List.length_map, htl] at hpl hql
    (repeat refine g_seq ?_)
    refine g_region ?_
    refine g_pu rfl rfl rfl (pu_fieldAddr (by decide) rfl rfl) ?_
    refine g_pu rfl rfl rfl (pu_load 6 (v := .string x.name) rfl rfl rfl h0) ?_
    refine g_call [] rfl rfl rfl rfl rfl rfl (fun w' hm => named_b w' x.name) (fun _ _ => ?_)
    rw [hna]
    refine g_pu rfl rfl rfl (pu_not rfl rfl) ?_
    refine g_pu rfl rfl rfl (pu_move rfl rfl) ?_
    first | refine g_pass rfl rfl rfl ?_ | refine g_pu rfl rfl rfl (pu_fieldAddr (by decide) rfl rfl) ?_
    refine g_pu rfl rfl rfl (pu_load 6 (v := b64 x.id) rfl rfl rfl h01) ?_
    refine g_pu rfl rfl rfl (pu_eql64_f (b := 0#64) rfl rfl rfl hid) ?_
    first | refine g_pu rfl rfl rfl (pu_pick_t rfl rfl rfl) ?_ | refine g_pu rfl rfl rfl (pu_pick_f rfl rfl rfl) ?_
    refine g_nil ?_
    (repeat refine g_seq ?_)
    refine g_cond_f rfl (g_skip ?_)
    (repeat refine g_seq ?_)
    refine g_region ?_
    refine g_pu rfl rfl rfl (pu_move rfl rfl) ?_
    refine g_pu rfl rfl rfl (pu_fieldAddr (by decide) rfl rfl) ?_
    refine g_pu rfl rfl rfl (pu_load 6 (v := .string x.name) rfl rfl rfl h0) ?_
    refine g_pu rfl rfl rfl (pu_lookup (κ := Value.string) x.name 10 keyS rfl rfl rfl rfl) ?_
    refine g_pu rfl rfl rfl (pu_addI rfl rfl rfl (by omega)) ?_
    refine g_mapUpdate 10 (κ := Value.string) x.name keyS rfl rfl rfl rfl rfl rfl rfl ?_
    refine g_nil ?_
    (repeat refine g_seq ?_)
    refine g_region ?_
    refine g_pu rfl rfl rfl (pu_move rfl rfl) ?_
    refine g_pu rfl rfl rfl (pu_fieldAddr (by decide) rfl rfl) ?_
    refine g_pu rfl rfl rfl (pu_load 6 (v := b64 x.id) rfl rfl rfl h01) ?_
    refine g_pu rfl rfl rfl (pu_lookup (κ := b64) x.id 11 keyI rfl rfl rfl rfl) ?_
    refine g_pu rfl rfl rfl (pu_addI rfl rfl rfl (by omega)) ?_
    refine g_mapUpdate 11 (κ := b64) x.id keyI rfl rfl rfl rfl rfl rfl rfl ?_
    refine g_nil ?_
    refine g_blk ?_
    (repeat refine g_seq ?_)
    refine g_region ?_
    refine g_pu rfl rfl rfl (pu_addI rfl rfl rfl (by omega)) ?_
    refine g_pu rfl rfl rfl (pu_move rfl rfl) ?_
    refine g_nil ?_
    exact g_round3 (i + 1) (putP x.name (getP x.name ps + 1) ps) (putP x.id (getP x.id qs + 1) qs) ⟨by omega, by rw [List.take_add_one, h1, List.map_append]; exact hps2, by rw [List.take_add_one, h1, List.map_append]; exact hqs2, takeN_mem hall h1 hok⟩ (by omega) ⟨rfl, rfl, rfl, rfl, rfl, rfl, trivial⟩ ⟨rfl, rfl, trivial⟩
  · (repeat refine g_seq ?_)
    refine g_region ?_
    first | refine g_pu rfl rfl rfl (pu_lss_t rfl rfl rfl (by omega)) ?_ | refine g_pu rfl rfl rfl (pu_lss_f rfl rfl rfl (by omega)) ?_ | refine g_pu rfl rfl rfl (pu_lss rfl rfl rfl) ?_
    refine g_nil ?_
    (repeat refine g_seq ?_)
    refine g_cond_f rfl (g_exit rfl ?_)
    rw [List.take_of_length_le (by omega)] at hps hqs hall
    have hpn := hps.nodup
    have hqn := hqs.nodup
    have hpl := hps.len
    have hql := hqs.len
    rw [List.length_map, hn] at hpn hqn hpl hql
    by_cases hA : ps.length = n
    · by_cases hB : qs.length = n
      · rw [chkN_0 (by omega) hall ((once_iff hs).2 ⟨hpn.1 hA, hqn.1 hB⟩)]
        (repeat refine g_seq ?_)
        refine g_region ?_
        refine g_pu rfl rfl rfl (pu_move rfl rfl) ?_
        refine g_pu rfl rfl rfl (pu_lenM 10 rfl rfl rfl) ?_
        refine g_pu rfl rfl rfl (pu_move rfl rfl) ?_
        first | refine g_pu rfl rfl rfl (pu_len rfl rfl) ?_ | refine g_pu rfl rfl rfl (pu_lenS rfl rfl) ?_
        refine g_pu rfl rfl rfl (pu_lss_f rfl rfl rfl (by omega)) ?_
        refine g_pu rfl rfl rfl (pu_move rfl rfl) ?_
        first | refine g_pass rfl rfl rfl ?_ | refine g_pu rfl rfl rfl (pu_move rfl rfl) ?_
        refine g_pu rfl rfl rfl (pu_lenM 11 rfl rfl rfl) ?_
        first | refine g_pass rfl rfl rfl ?_ | refine g_pu rfl rfl rfl (pu_move rfl rfl) ?_
        first | refine g_pass rfl rfl rfl ?_ | refine g_pu rfl rfl rfl (pu_len rfl rfl) ?_ | refine g_pu rfl rfl rfl (pu_lenS rfl rfl) ?_
        refine g_pu rfl rfl rfl (pu_lss_f rfl rfl rfl (by omega)) ?_
        first | refine g_pu rfl rfl rfl (pu_pick_t rfl rfl rfl) ?_ | refine g_pu rfl rfl rfl (pu_pick_f rfl rfl rfl) ?_
        refine g_nil ?_
        (repeat refine g_seq ?_)
        refine g_cond_f rfl (g_skip ?_)
        (repeat refine g_seq ?_)
        refine g_region ?_
        refine g_pu rfl rfl rfl (pu_assign rfl rfl) ?_
        refine g_nil ?_
        exact g_ret1 rfl rfl (fun w' hm => ⟨(), trivial, rfl, hm.grows [] trivial rfl⟩)
      · rw [chkN_4 (by omega) hall fun h => hB (hqn.2 ((once_iff hs).1 h).2)]
        (repeat refine g_seq ?_)
        refine g_region ?_
        refine g_pu rfl rfl rfl (pu_move rfl rfl) ?_
        refine g_pu rfl rfl rfl (pu_lenM 10 rfl rfl rfl) ?_
        refine g_pu rfl rfl rfl (pu_move rfl rfl) ?_
        first | refine g_pu rfl rfl rfl (pu_len rfl rfl) ?_ | refine g_pu rfl rfl rfl (pu_lenS rfl rfl) ?_
        refine g_pu rfl rfl rfl (pu_lss_f rfl rfl rfl (by omega)) ?_
        refine g_pu rfl rfl rfl (pu_move rfl rfl) ?_
        first | refine g_pass rfl rfl rfl ?_ | refine g_pu rfl rfl rfl (pu_move rfl rfl) ?_
        refine g_pu rfl rfl rfl (pu_lenM 11 rfl rfl rfl) ?_
        first | refine g_pass rfl rfl rfl ?_ | refine g_pu rfl rfl rfl (pu_move rfl rfl) ?_
        first | refine g_pass rfl rfl rfl ?_ | refine g_pu rfl rfl rfl (pu_len rfl rfl) ?_ | refine g_pu rfl rfl rfl (pu_lenS rfl rfl) ?_
        refine g_pu rfl rfl rfl (pu_lss_t rfl rfl rfl (by omega)) ?_
        first | refine g_pu rfl rfl rfl (pu_pick_t rfl rfl rfl) ?_ | refine g_pu rfl rfl rfl (pu_pick_f rfl rfl rfl) ?_
        refine g_nil ?_
        (repeat refine g_seq ?_)
        refine g_cond_t rfl ?_
        (repeat refine g_seq ?_)
        refine g_region ?_
        refine g_pu rfl rfl rfl (pu_assign rfl rfl) ?_
        refine g_nil ?_
        exact g_ret1 rfl rfl (fun w' hm => ⟨(), trivial, rfl, hm.grows [] trivial rfl⟩)
    · rw [chkN_4 (by omega) hall fun h => hA (hpn.2 ((once_iff hs).1 h).1)]
      (repeat refine g_seq ?_)
      refine g_region ?_
      refine g_pu rfl rfl rfl (pu_move rfl rfl) ?_
      refine g_pu rfl rfl rfl (pu_lenM 10 rfl rfl rfl) ?_
      refine g_pu rfl rfl rfl (pu_move rfl rfl) ?_
      first | refine g_pu rfl rfl rfl (pu_len rfl rfl) ?_ | refine g_pu rfl rfl rfl (pu_lenS rfl rfl) ?_
      refine g_pu rfl rfl rfl (pu_lss_t rfl rfl rfl (by omega)) ?_
      refine g_pu rfl rfl rfl (pu_move rfl rfl) ?_
      first | refine g_pass rfl rfl rfl ?_ | refine g_pu rfl rfl rfl (pu_move rfl rfl) ?_
      first | refine g_pass rfl rfl rfl ?_ | refine g_pu rfl rfl rfl (pu_len rfl rfl) ?_ | refine g_pu rfl rfl rfl (pu_lenS rfl rfl) ?_
      first | refine g_pass rfl rfl rfl ?_ | refine g_pu rfl rfl rfl (pu_move rfl rfl) ?_
      first | refine g_pass rfl rfl rfl ?_ | refine g_pu rfl rfl rfl (pu_len rfl rfl) ?_ | refine g_pu rfl rfl rfl (pu_lenS rfl rfl) ?_
      first | refine g_pass rfl rfl rfl ?_ | refine g_pu rfl rfl rfl (pu_lss_t rfl rfl rfl (by omega)) ?_ | refine g_pu rfl rfl rfl (pu_lss_f rfl rfl rfl (by omega)) ?_ | refine g_pu rfl rfl rfl (pu_lss rfl rfl rfl) ?_
      first | refine g_pu rfl rfl rfl (pu_pick_t rfl rfl rfl) ?_ | refine g_pu rfl rfl rfl (pu_pick_f rfl rfl rfl) ?_
      refine g_nil ?_
      (repeat refine g_seq ?_)
      refine g_cond_t rfl ?_
      (repeat refine g_seq ?_)
      refine g_region ?_
      refine g_pu rfl rfl rfl (pu_assign rfl rfl) ?_
      refine g_nil ?_
      exact g_ret1 rfl rfl (fun w' hm => ⟨(), trivial, rfl, hm.grows [] trivial rfl⟩)

theorem RDCheck_b (w : World) {p : Option Addr} {n : Nat} (c : Nat) {hs : List Hop} (hp : RdV w p (nodsC hs)) (hn : hs.length = n) (ho : ∀ x ∈ hs, x.ok) : Spec Try.prog 11 #[.slice p n c] w (σ := Unit) (fun _ => True) (fun _ => .int .i64 (chkN hs)) Nob (fun _ => []) := by
  refine enter Try.func11 rfl rfl (Mem.start w) ?_
  have hcl := nodsC_length ho
  (repeat refine g_seq ?_)
  refine g_region ?_
  refine g_pu rfl rfl rfl (pu_assign rfl rfl) ?_
  refine g_nil ?_
  by_cases h64 : 64 < n
  · rw [chkN_2 (by omega)]
    (repeat refine g_seq ?_)
    refine g_region ?_
    refine g_pu rfl rfl rfl (pu_move rfl rfl) ?_
    first | refine g_pu rfl rfl rfl (pu_len rfl rfl) ?_ | refine g_pu rfl rfl rfl (pu_lenS rfl rfl) ?_
    refine g_pu rfl rfl rfl (pu_gtr_t rfl rfl rfl (by omega)) ?_
    refine g_nil ?_
    (repeat refine g_seq ?_)
    refine g_cond_t rfl ?_
    (repeat refine g_seq ?_)
    refine g_region ?_
    refine g_pu rfl rfl rfl (pu_assign rfl rfl) ?_
    refine g_nil ?_
    exact g_ret1 rfl rfl (fun w' hm => ⟨(), trivial, rfl, hm.grows [] trivial rfl⟩)
  (repeat refine g_seq ?_)
  refine g_region ?_
  refine g_pu rfl rfl rfl (pu_move rfl rfl) ?_
  first | refine g_pu rfl rfl rfl (pu_len rfl rfl) ?_ | refine g_pu rfl rfl rfl (pu_lenS rfl rfl) ?_
  refine g_pu rfl rfl rfl (pu_gtr_f rfl rfl rfl (by omega)) ?_
  refine g_nil ?_
  (repeat refine g_seq ?_)
  refine g_cond_f rfl (g_skip ?_)
  (repeat refine g_seq ?_)
  refine g_region ?_
  refine g_pu rfl rfl rfl (pu_assign rfl rfl) ?_
  refine g_nil ?_
  (repeat refine g_seq ?_)
  refine g_block (g_loop (σ := Nat) (fun i => [(0, .slice p n c), (3, .int .i64 (i : Int))]) (fun _ => []) (fun i => i ≤ n ∧ ∀ x ∈ hs.take i, okN x = true) (fun i => n - i) 0 ⟨rfl, rfl, trivial⟩ trivial ⟨by omega, fun _ h => by simp at h⟩ ?_)
  intro i ⟨hi, hall⟩
  by_cases hlt : i < n
  · (repeat refine g_seq ?_)
    refine g_region ?_
    refine g_pu rfl rfl rfl (pu_move rfl rfl) ?_
    refine g_pu rfl rfl rfl (pu_move rfl rfl) ?_
    first | refine g_pu rfl rfl rfl (pu_len rfl rfl) ?_ | refine g_pu rfl rfl rfl (pu_lenS rfl rfl) ?_
    refine g_pu rfl rfl rfl (pu_lss_t rfl rfl rfl (by omega)) ?_
    refine g_nil ?_
    (repeat refine g_seq ?_)
    refine g_cond_t rfl (g_skip ?_)
    have h1 : hs[i]? = some hs[i] := List.getElem?_eq_getElem (by omega)
    have hxm : hs[i] ∈ hs := List.getElem_mem _
    generalize hs[i] = x at h1 hxm
    have h0 := nodsC_cell ho h1 (node_0 x)
    have h01 := nodsC_cell ho h1 (node_1 x)
    (repeat refine g_seq ?_); refine g_block ?_
    cases hna : nameOk (bytesOf x.name)
    · have hbad : okN x = false := by unfold okN; rw [hna]; rfl
      rw [chkN_3 (by omega) hxm hbad]
      (repeat refine g_seq ?_)
      refine g_region ?_
      refine g_pu rfl rfl rfl (pu_move rfl rfl) ?_
      refine g_pu rfl rfl rfl (pu_move rfl rfl) ?_
      refine g_pu rfl rfl rfl (pu_atM i (s := 66) (L := nodsC hs) (fun w' hm => hp.mem0 hm) rfl rfl rfl rfl hlt (by omega)) ?_
      refine g_pu rfl rfl rfl (pu_fieldM (L := nodsC hs) (fun w' hm => hp.mem0 hm) (by omega) (by decide) rfl rfl) ?_
      refine g_pu rfl rfl rfl (pu_rdM (L := nodsC hs) (j := i * 66 + 0) (fun w' hm => hp.mem0 hm) rfl rfl h0) ?_
      refine g_call [] rfl rfl rfl rfl rfl rfl (fun w' hm => RNamed_b w' x.name) (fun _ _ => ?_)
      rw [hna]
      refine g_pu rfl rfl rfl (pu_not rfl rfl) ?_
      refine g_pu rfl rfl rfl (pu_move rfl rfl) ?_
      first | refine g_pass rfl rfl rfl ?_ | refine g_pu rfl rfl rfl (pu_move rfl rfl) ?_
      first | refine g_pass rfl rfl rfl ?_ | refine g_pu rfl rfl rfl (pu_move rfl rfl) ?_
      refine g_pass rfl rfl rfl ?_
      first | refine g_pass rfl rfl rfl ?_ | refine g_pu rfl rfl rfl (pu_fieldAddr (by decide) rfl rfl) ?_
      refine g_pass rfl rfl rfl ?_
      first | refine g_pass rfl rfl rfl ?_ | refine g_pu rfl rfl rfl (pu_eql64_t (b := 0#64) rfl rfl rfl (by first | rfl | assumption | decide)) ?_ | refine g_pu rfl rfl rfl (pu_eql64_f (b := 0#64) rfl rfl rfl (by first | assumption | decide)) ?_ | refine g_pu rfl rfl rfl (pu_eql64 (b := 0#64) rfl rfl rfl) ?_
      first | refine g_pu rfl rfl rfl (pu_pick_t rfl rfl rfl) ?_ | refine g_pu rfl rfl rfl (pu_pick_f rfl rfl rfl) ?_
      refine g_nil ?_
      (repeat refine g_seq ?_)
      refine g_cond_t rfl ?_
      (repeat refine g_seq ?_)
      refine g_region ?_
      refine g_pu rfl rfl rfl (pu_assign rfl rfl) ?_
      refine g_nil ?_
      exact g_ret1 rfl rfl (fun w' hm => ⟨(), trivial, rfl, hm.grows [] trivial rfl⟩)
    by_cases hid : x.id = 0#64
    · have hbad : okN x = false := by unfold okN; rw [hid, hna]; rfl
      rw [chkN_3 (by omega) hxm hbad]
      (repeat refine g_seq ?_)
      refine g_region ?_
      refine g_pu rfl rfl rfl (pu_move rfl rfl) ?_
      refine g_pu rfl rfl rfl (pu_move rfl rfl) ?_
      refine g_pu rfl rfl rfl (pu_atM i (s := 66) (L := nodsC hs) (fun w' hm => hp.mem0 hm) rfl rfl rfl rfl hlt (by omega)) ?_
      refine g_pu rfl rfl rfl (pu_fieldM (L := nodsC hs) (fun w' hm => hp.mem0 hm) (by omega) (by decide) rfl rfl) ?_
      refine g_pu rfl rfl rfl (pu_rdM (L := nodsC hs) (j := i * 66 + 0) (fun w' hm => hp.mem0 hm) rfl rfl h0) ?_
      refine g_call [] rfl rfl rfl rfl rfl rfl (fun w' hm => RNamed_b w' x.name) (fun _ _ => ?_)
      rw [hna]
      refine g_pu rfl rfl rfl (pu_not rfl rfl) ?_
      refine g_pu rfl rfl rfl (pu_move rfl rfl) ?_
      first | refine g_pass rfl rfl rfl ?_ | refine g_pu rfl rfl rfl (pu_move rfl rfl) ?_
      first | refine g_pass rfl rfl rfl ?_ | refine g_pu rfl rfl rfl (pu_move rfl rfl) ?_
      refine g_pu rfl rfl rfl (pu_atM i (s := 66) (L := nodsC hs) (fun w' hm => hp.mem0 hm) rfl rfl rfl rfl hlt (by omega)) ?_
      refine g_pu rfl rfl rfl (pu_fieldM (L := nodsC hs) (fun w' hm => hp.mem0 hm) (by omega) (by decide) rfl rfl) ?_
      refine g_pu rfl rfl rfl (pu_rdM (L := nodsC hs) (j := i * 66 + 1) (fun w' hm => hp.mem0 hm) rfl rfl h01) ?_
      refine g_pu rfl rfl rfl (pu_eql64_t (b := 0#64) rfl rfl rfl hid) ?_
      first | refine g_pu rfl rfl rfl (pu_pick_t rfl rfl rfl) ?_ | refine g_pu rfl rfl rfl (pu_pick_f rfl rfl rfl) ?_
      refine g_nil ?_
      (repeat refine g_seq ?_)
      refine g_cond_t rfl ?_
      (repeat refine g_seq ?_)
      refine g_region ?_
      refine g_pu rfl rfl rfl (pu_assign rfl rfl) ?_
      refine g_nil ?_
      exact g_ret1 rfl rfl (fun w' hm => ⟨(), trivial, rfl, hm.grows [] trivial rfl⟩)
    have hok : okN x = true := by unfold okN; rw [hna, decide_eq_false hid]; rfl
    (repeat refine g_seq ?_)
    refine g_region ?_
    refine g_pu rfl rfl rfl (pu_move rfl rfl) ?_
    refine g_pu rfl rfl rfl (pu_move rfl rfl) ?_
    refine g_pu rfl rfl rfl (pu_atM i (s := 66) (L := nodsC hs) (fun w' hm => hp.mem0 hm) rfl rfl rfl rfl hlt (by omega)) ?_
    refine g_pu rfl rfl rfl (pu_fieldM (L := nodsC hs) (fun w' hm => hp.mem0 hm) (by omega) (by decide) rfl rfl) ?_
    refine g_pu rfl rfl rfl (pu_rdM (L := nodsC hs) (j := i * 66 + 0) (fun w' hm => hp.mem0 hm) rfl rfl h0) ?_
    refine g_call [] rfl rfl rfl rfl rfl rfl (fun w' hm => RNamed_b w' x.name) (fun _ _ => ?_)
    rw [hna]
    refine g_pu rfl rfl rfl (pu_not rfl rfl) ?_
    refine g_pu rfl rfl rfl (pu_move rfl rfl) ?_
    first | refine g_pass rfl rfl rfl ?_ | refine g_pu rfl rfl rfl (pu_move rfl rfl) ?_
    first | refine g_pass rfl rfl rfl ?_ | refine g_pu rfl rfl rfl (pu_move rfl rfl) ?_
    refine g_pu rfl rfl rfl (pu_atM i (s := 66) (L := nodsC hs) (fun w' hm => hp.mem0 hm) rfl rfl rfl rfl hlt (by omega)) ?_
    refine g_pu rfl rfl rfl (pu_fieldM (L := nodsC hs) (fun w' hm => hp.mem0 hm) (by omega) (by decide) rfl rfl) ?_
    refine g_pu rfl rfl rfl (pu_rdM (L := nodsC hs) (j := i * 66 + 1) (fun w' hm => hp.mem0 hm) rfl rfl h01) ?_
    refine g_pu rfl rfl rfl (pu_eql64_f (b := 0#64) rfl rfl rfl hid) ?_
    first | refine g_pu rfl rfl rfl (pu_pick_t rfl rfl rfl) ?_ | refine g_pu rfl rfl rfl (pu_pick_f rfl rfl rfl) ?_
    refine g_nil ?_
    (repeat refine g_seq ?_)
    refine g_cond_f rfl (g_skip ?_)
    refine g_blk ?_
    (repeat refine g_seq ?_)
    refine g_region ?_
    refine g_pu rfl rfl rfl (pu_move rfl rfl) ?_
    refine g_pu rfl rfl rfl (pu_addI rfl rfl rfl (by omega)) ?_
    refine g_pu rfl rfl rfl (pu_assign rfl rfl) ?_
    refine g_nil ?_
    exact g_round (i + 1) ⟨by omega, takeN_mem hall h1 hok⟩ (by omega) ⟨rfl, rfl, trivial⟩ trivial
  (repeat refine g_seq ?_)
  refine g_region ?_
  refine g_pu rfl rfl rfl (pu_move rfl rfl) ?_
  refine g_pu rfl rfl rfl (pu_move rfl rfl) ?_
  first | refine g_pu rfl rfl rfl (pu_len rfl rfl) ?_ | refine g_pu rfl rfl rfl (pu_lenS rfl rfl) ?_
  refine g_pu rfl rfl rfl (pu_lss_f rfl rfl rfl (by omega)) ?_
  refine g_nil ?_
  (repeat refine g_seq ?_)
  refine g_cond_f rfl (g_exit rfl ?_)
  rw [List.take_of_length_le (by omega)] at hall
  (repeat refine g_seq ?_)
  refine g_region ?_
  refine g_pu rfl rfl rfl (pu_assign rfl rfl) ?_
  refine g_nil ?_
  (repeat refine g_seq ?_)
  refine g_block (g_loop (σ := Nat) (fun i => [(0, .slice p n c), (4, .int .i64 (i : Int))]) (fun _ => []) (fun i => i ≤ n ∧ ∀ (a b : Nat) (x y : Hop), b < a → a < i → hs[a]? = some x → hs[b]? = some y → x.name ≠ y.name ∧ x.id ≠ y.id) (fun i => n - i) 0 ⟨rfl, rfl, trivial⟩ trivial ⟨by omega, fun a _ _ _ _ h => absurd h (Nat.not_lt_zero a)⟩ ?_)
  intro i ⟨hi, hon⟩
  by_cases hlt : i < n
  · (repeat refine g_seq ?_)
    refine g_region ?_
    refine g_pu rfl rfl rfl (pu_move rfl rfl) ?_
    refine g_pu rfl rfl rfl (pu_move rfl rfl) ?_
    first | refine g_pu rfl rfl rfl (pu_len rfl rfl) ?_ | refine g_pu rfl rfl rfl (pu_lenS rfl rfl) ?_
    refine g_pu rfl rfl rfl (pu_lss_t rfl rfl rfl (by omega)) ?_
    refine g_nil ?_
    (repeat refine g_seq ?_)
    refine g_cond_t rfl (g_skip ?_)
    have h1 : hs[i]? = some hs[i] := List.getElem?_eq_getElem (by omega)
    generalize hs[i] = x at h1
    have h0 := nodsC_cell ho h1 (node_0 x)
    have h01 := nodsC_cell ho h1 (node_1 x)
    (repeat refine g_seq ?_); refine g_block ?_
    (repeat refine g_seq ?_)
    refine g_region ?_
    refine g_pu rfl rfl rfl (pu_assign rfl rfl) ?_
    refine g_nil ?_
    (repeat refine g_seq ?_)
    refine g_block (g_loop (σ := Nat) (fun j => [(0, .slice p n c), (4, .int .i64 (i : Int)), (5, .int .i64 (j : Int))]) (fun _ => []) (fun j => j ≤ i ∧ ∀ (b : Nat) (y : Hop), b < j → hs[b]? = some y → x.name ≠ y.name ∧ x.id ≠ y.id) (fun j => i - j) 0 ⟨rfl, rfl, rfl, trivial⟩ trivial ⟨by omega, fun b _ h => absurd h (Nat.not_lt_zero b)⟩ ?_)
    intro j ⟨hj, hin⟩
    by_cases hlt2 : j < i
    · (repeat refine g_seq ?_)
      refine g_region ?_
      refine g_pu rfl rfl rfl (pu_move rfl rfl) ?_
      refine g_pu rfl rfl rfl (pu_move rfl rfl) ?_
      refine g_pu rfl rfl rfl (pu_lss_t rfl rfl rfl (by omega)) ?_
      refine g_nil ?_
      (repeat refine g_seq ?_)
      refine g_cond_t rfl (g_skip ?_)
      have g1 : hs[j]? = some hs[j] := List.getElem?_eq_getElem (by omega)
      generalize hs[j] = y at g1
      have g0 := nodsC_cell ho g1 (node_0 y)
      have g01 := nodsC_cell ho g1 (node_1 y)
      (repeat refine g_seq ?_); refine g_block ?_
      by_cases hnm : x.name = y.name
      · rw [chkN_4 (by omega) hall fun h => (h i j x y hlt2 h1 g1).1 hnm]
        (repeat refine g_seq ?_)
        refine g_any (24, []) ?_
        refine a_pu 0 rfl rfl rfl rfl (pu_move rfl rfl) rfl rfl (by kernel_rfl) ?_
        refine a_pu 1 rfl rfl rfl rfl (pu_move rfl rfl) rfl rfl (by kernel_rfl) ?_
        refine a_pu 2 rfl rfl rfl rfl (pu_atM i (s := 66) (L := nodsC hs) (fun w' hm => hp.mem0 hm) rfl rfl rfl rfl hlt (by omega)) rfl rfl (by kernel_rfl) ?_
        refine a_pu 3 rfl rfl rfl rfl (pu_fieldM (L := nodsC hs) (fun w' hm => hp.mem0 hm) (by omega) (by decide) rfl rfl) rfl rfl (by kernel_rfl) ?_
        refine a_pu 4 rfl rfl rfl rfl (pu_rdM (L := nodsC hs) (j := i * 66 + 0) (fun w' hm => hp.mem0 hm) rfl rfl h0) rfl rfl (by kernel_rfl) ?_
        refine a_pu 5 rfl rfl rfl rfl (pu_move rfl rfl) rfl rfl (by kernel_rfl) ?_
        refine a_pu 6 rfl rfl rfl rfl (pu_move rfl rfl) rfl rfl (by kernel_rfl) ?_
        refine a_pu 7 rfl rfl rfl rfl (pu_atM j (s := 66) (L := nodsC hs) (fun w' hm => hp.mem0 hm) rfl rfl rfl rfl (by omega) (by omega)) rfl rfl (by kernel_rfl) ?_
        refine a_pu 8 rfl rfl rfl rfl (pu_fieldM (L := nodsC hs) (fun w' hm => hp.mem0 hm) (by omega) (by decide) rfl rfl) rfl rfl (by kernel_rfl) ?_
        refine a_pu 9 rfl rfl rfl rfl (pu_rdM (L := nodsC hs) (j := j * 66 + 0) (fun w' hm => hp.mem0 hm) rfl rfl g0) rfl rfl (by kernel_rfl) ?_
        refine a_pu 10 rfl rfl rfl rfl (pu_eqlS_t rfl rfl rfl hnm) rfl rfl (by kernel_rfl) ?_
        refine a_pu 11 rfl rfl rfl rfl (pu_move rfl rfl) rfl rfl (by kernel_rfl) ?_
        first | refine a_pass 12 rfl rfl rfl rfl rfl rfl (by kernel_rfl) ?_ | refine a_pu 12 rfl rfl rfl rfl (pu_move rfl rfl) rfl rfl (by kernel_rfl) ?_
        first | refine a_pass 13 rfl rfl rfl rfl rfl rfl (by kernel_rfl) ?_ | refine a_pu 13 rfl rfl rfl rfl (pu_move rfl rfl) rfl rfl (by kernel_rfl) ?_
        refine a_pass 14 rfl rfl rfl rfl rfl rfl (by kernel_rfl) ?_
        first | refine a_pass 15 rfl rfl rfl rfl rfl rfl (by kernel_rfl) ?_ | refine a_pu 15 rfl rfl rfl rfl (pu_fieldAddr (by decide) rfl rfl) rfl rfl (by kernel_rfl) ?_
        refine a_pass 16 rfl rfl rfl rfl rfl rfl (by kernel_rfl) ?_
        first | refine a_pass 17 rfl rfl rfl rfl rfl rfl (by kernel_rfl) ?_ | refine a_pu 17 rfl rfl rfl rfl (pu_move rfl rfl) rfl rfl (by kernel_rfl) ?_
        first | refine a_pass 18 rfl rfl rfl rfl rfl rfl (by kernel_rfl) ?_ | refine a_pu 18 rfl rfl rfl rfl (pu_move rfl rfl) rfl rfl (by kernel_rfl) ?_
        refine a_pass 19 rfl rfl rfl rfl rfl rfl (by kernel_rfl) ?_
        first | refine a_pass 20 rfl rfl rfl rfl rfl rfl (by kernel_rfl) ?_ | refine a_pu 20 rfl rfl rfl rfl (pu_fieldAddr (by decide) rfl rfl) rfl rfl (by kernel_rfl) ?_
        refine a_pass 21 rfl rfl rfl rfl rfl rfl (by kernel_rfl) ?_
        first | refine a_pass 22 rfl rfl rfl rfl rfl rfl (by kernel_rfl) ?_ | refine a_pu 22 rfl rfl rfl rfl (pu_eql64_t rfl rfl rfl (by first | rfl | assumption | decide)) rfl rfl (by kernel_rfl) ?_ | refine a_pu 22 rfl rfl rfl rfl (pu_eql64_f rfl rfl rfl (by first | assumption | decide)) rfl rfl (by kernel_rfl) ?_ | refine a_pu 22 rfl rfl rfl rfl (pu_eql64 rfl rfl rfl) rfl rfl (by kernel_rfl) ?_
        first | refine a_pu 23 rfl rfl rfl rfl (pu_pick_t rfl rfl rfl) rfl rfl (by kernel_rfl) ?_ | refine a_pu 23 rfl rfl rfl rfl (pu_pick_f rfl rfl rfl) rfl rfl (by kernel_rfl) ?_
        refine a_done (by kernel_rfl) ?_
        (repeat refine g_seq ?_)
        refine g_cond_t rfl ?_
        (repeat refine g_seq ?_)
        refine g_region ?_
        refine g_pu rfl rfl rfl (pu_assign rfl rfl) ?_
        refine g_nil ?_
        exact g_ret1 rfl rfl (fun w' hm => ⟨(), trivial, rfl, hm.grows [] trivial rfl⟩)
      by_cases hid : x.id = y.id
      · rw [chkN_4 (by omega) hall fun h => (h i j x y hlt2 h1 g1).2 hid]
        (repeat refine g_seq ?_)
        refine g_any (24, []) ?_
        refine a_pu 0 rfl rfl rfl rfl (pu_move rfl rfl) rfl rfl (by kernel_rfl) ?_
        refine a_pu 1 rfl rfl rfl rfl (pu_move rfl rfl) rfl rfl (by kernel_rfl) ?_
        refine a_pu 2 rfl rfl rfl rfl (pu_atM i (s := 66) (L := nodsC hs) (fun w' hm => hp.mem0 hm) rfl rfl rfl rfl hlt (by omega)) rfl rfl (by kernel_rfl) ?_
        refine a_pu 3 rfl rfl rfl rfl (pu_fieldM (L := nodsC hs) (fun w' hm => hp.mem0 hm) (by omega) (by decide) rfl rfl) rfl rfl (by kernel_rfl) ?_
        refine a_pu 4 rfl rfl rfl rfl (pu_rdM (L := nodsC hs) (j := i * 66 + 0) (fun w' hm => hp.mem0 hm) rfl rfl h0) rfl rfl (by kernel_rfl) ?_
        refine a_pu 5 rfl rfl rfl rfl (pu_move rfl rfl) rfl rfl (by kernel_rfl) ?_
        refine a_pu 6 rfl rfl rfl rfl (pu_move rfl rfl) rfl rfl (by kernel_rfl) ?_
        refine a_pu 7 rfl rfl rfl rfl (pu_atM j (s := 66) (L := nodsC hs) (fun w' hm => hp.mem0 hm) rfl rfl rfl rfl (by omega) (by omega)) rfl rfl (by kernel_rfl) ?_
        refine a_pu 8 rfl rfl rfl rfl (pu_fieldM (L := nodsC hs) (fun w' hm => hp.mem0 hm) (by omega) (by decide) rfl rfl) rfl rfl (by kernel_rfl) ?_
        refine a_pu 9 rfl rfl rfl rfl (pu_rdM (L := nodsC hs) (j := j * 66 + 0) (fun w' hm => hp.mem0 hm) rfl rfl g0) rfl rfl (by kernel_rfl) ?_
        refine a_pu 10 rfl rfl rfl rfl (pu_eqlS rfl rfl rfl) rfl rfl (by kernel_rfl) ?_
        rw [decide_eq_false hnm]
        refine a_pu 11 rfl rfl rfl rfl (pu_move rfl rfl) rfl rfl (by kernel_rfl) ?_
        first | refine a_pass 12 rfl rfl rfl rfl rfl rfl (by kernel_rfl) ?_ | refine a_pu 12 rfl rfl rfl rfl (pu_move rfl rfl) rfl rfl (by kernel_rfl) ?_
        first | refine a_pass 13 rfl rfl rfl rfl rfl rfl (by kernel_rfl) ?_ | refine a_pu 13 rfl rfl rfl rfl (pu_move rfl rfl) rfl rfl (by kernel_rfl) ?_
        refine a_pu 14 rfl rfl rfl rfl (pu_atM i (s := 66) (L := nodsC hs) (fun w' hm => hp.mem0 hm) rfl rfl rfl rfl hlt (by omega)) rfl rfl (by kernel_rfl) ?_
        refine a_pu 15 rfl rfl rfl rfl (pu_fieldM (L := nodsC hs) (fun w' hm => hp.mem0 hm) (by omega) (by decide) rfl rfl) rfl rfl (by kernel_rfl) ?_
        refine a_pu 16 rfl rfl rfl rfl (pu_rdM (L := nodsC hs) (j := i * 66 + 1) (fun w' hm => hp.mem0 hm) rfl rfl h01) rfl rfl (by kernel_rfl) ?_
        first | refine a_pass 17 rfl rfl rfl rfl rfl rfl (by kernel_rfl) ?_ | refine a_pu 17 rfl rfl rfl rfl (pu_move rfl rfl) rfl rfl (by kernel_rfl) ?_
        first | refine a_pass 18 rfl rfl rfl rfl rfl rfl (by kernel_rfl) ?_ | refine a_pu 18 rfl rfl rfl rfl (pu_move rfl rfl) rfl rfl (by kernel_rfl) ?_
        refine a_pu 19 rfl rfl rfl rfl (pu_atM j (s := 66) (L := nodsC hs) (fun w' hm => hp.mem0 hm) rfl rfl rfl rfl (by omega) (by omega)) rfl rfl (by kernel_rfl) ?_
        refine a_pu 20 rfl rfl rfl rfl (pu_fieldM (L := nodsC hs) (fun w' hm => hp.mem0 hm) (by omega) (by decide) rfl rfl) rfl rfl (by kernel_rfl) ?_
        refine a_pu 21 rfl rfl rfl rfl (pu_rdM (L := nodsC hs) (j := j * 66 + 1) (fun w' hm => hp.mem0 hm) rfl rfl g01) rfl rfl (by kernel_rfl) ?_
        refine a_pu 22 rfl rfl rfl rfl (pu_eql64_t rfl rfl rfl hid) rfl rfl (by kernel_rfl) ?_
        first | refine a_pu 23 rfl rfl rfl rfl (pu_pick_t rfl rfl rfl) rfl rfl (by kernel_rfl) ?_ | refine a_pu 23 rfl rfl rfl rfl (pu_pick_f rfl rfl rfl) rfl rfl (by kernel_rfl) ?_
        refine a_done (by kernel_rfl) ?_
        (repeat refine g_seq ?_)
        refine g_cond_t rfl ?_
        (repeat refine g_seq ?_)
        refine g_region ?_
        refine g_pu rfl rfl rfl (pu_assign rfl rfl) ?_
        refine g_nil ?_
        exact g_ret1 rfl rfl (fun w' hm => ⟨(), trivial, rfl, hm.grows [] trivial rfl⟩)
      (repeat refine g_seq ?_)
      refine g_any (24, []) ?_
      refine a_pu 0 rfl rfl rfl rfl (pu_move rfl rfl) rfl rfl (by kernel_rfl) ?_
      refine a_pu 1 rfl rfl rfl rfl (pu_move rfl rfl) rfl rfl (by kernel_rfl) ?_
      refine a_pu 2 rfl rfl rfl rfl (pu_atM i (s := 66) (L := nodsC hs) (fun w' hm => hp.mem0 hm) rfl rfl rfl rfl hlt (by omega)) rfl rfl (by kernel_rfl) ?_
      refine a_pu 3 rfl rfl rfl rfl (pu_fieldM (L := nodsC hs) (fun w' hm => hp.mem0 hm) (by omega) (by decide) rfl rfl) rfl rfl (by kernel_rfl) ?_
      refine a_pu 4 rfl rfl rfl rfl (pu_rdM (L := nodsC hs) (j := i * 66 + 0) (fun w' hm => hp.mem0 hm) rfl rfl h0) rfl rfl (by kernel_rfl) ?_
      refine a_pu 5 rfl rfl rfl rfl (pu_move rfl rfl) rfl rfl (by kernel_rfl) ?_
      refine a_pu 6 rfl rfl rfl rfl (pu_move rfl rfl) rfl rfl (by kernel_rfl) ?_
      refine a_pu 7 rfl rfl rfl rfl (pu_atM j (s := 66) (L := nodsC hs) (fun w' hm => hp.mem0 hm) rfl rfl rfl rfl (by omega) (by omega)) rfl rfl (by kernel_rfl) ?_
      refine a_pu 8 rfl rfl rfl rfl (pu_fieldM (L := nodsC hs) (fun w' hm => hp.mem0 hm) (by omega) (by decide) rfl rfl) rfl rfl (by kernel_rfl) ?_
      refine a_pu 9 rfl rfl rfl rfl (pu_rdM (L := nodsC hs) (j := j * 66 + 0) (fun w' hm => hp.mem0 hm) rfl rfl g0) rfl rfl (by kernel_rfl) ?_
      refine a_pu 10 rfl rfl rfl rfl (pu_eqlS rfl rfl rfl) rfl rfl (by kernel_rfl) ?_
      rw [decide_eq_false hnm]
      refine a_pu 11 rfl rfl rfl rfl (pu_move rfl rfl) rfl rfl (by kernel_rfl) ?_
      first | refine a_pass 12 rfl rfl rfl rfl rfl rfl (by kernel_rfl) ?_ | refine a_pu 12 rfl rfl rfl rfl (pu_move rfl rfl) rfl rfl (by kernel_rfl) ?_
      first | refine a_pass 13 rfl rfl rfl rfl rfl rfl (by kernel_rfl) ?_ | refine a_pu 13 rfl rfl rfl rfl (pu_move rfl rfl) rfl rfl (by kernel_rfl) ?_
      refine a_pu 14 rfl rfl rfl rfl (pu_atM i (s := 66) (L := nodsC hs) (fun w' hm => hp.mem0 hm) rfl rfl rfl rfl hlt (by omega)) rfl rfl (by kernel_rfl) ?_
      refine a_pu 15 rfl rfl rfl rfl (pu_fieldM (L := nodsC hs) (fun w' hm => hp.mem0 hm) (by omega) (by decide) rfl rfl) rfl rfl (by kernel_rfl) ?_
      refine a_pu 16 rfl rfl rfl rfl (pu_rdM (L := nodsC hs) (j := i * 66 + 1) (fun w' hm => hp.mem0 hm) rfl rfl h01) rfl rfl (by kernel_rfl) ?_
      first | refine a_pass 17 rfl rfl rfl rfl rfl rfl (by kernel_rfl) ?_ | refine a_pu 17 rfl rfl rfl rfl (pu_move rfl rfl) rfl rfl (by kernel_rfl) ?_
      first | refine a_pass 18 rfl rfl rfl rfl rfl rfl (by kernel_rfl) ?_ | refine a_pu 18 rfl rfl rfl rfl (pu_move rfl rfl) rfl rfl (by kernel_rfl) ?_
      refine a_pu 19 rfl rfl rfl rfl (pu_atM j (s := 66) (L := nodsC hs) (fun w' hm => hp.mem0 hm) rfl rfl rfl rfl (by omega) (by omega)) rfl rfl (by kernel_rfl) ?_
      refine a_pu 20 rfl rfl rfl rfl (pu_fieldM (L := nodsC hs) (fun w' hm => hp.mem0 hm) (by omega) (by decide) rfl rfl) rfl rfl (by kernel_rfl) ?_
      refine a_pu 21 rfl rfl rfl rfl (pu_rdM (L := nodsC hs) (j := j * 66 + 1) (fun w' hm => hp.mem0 hm) rfl rfl g01) rfl rfl (by kernel_rfl) ?_
      refine a_pu 22 rfl rfl rfl rfl (pu_eql64_f rfl rfl rfl hid) rfl rfl (by kernel_rfl) ?_
      first | refine a_pu 23 rfl rfl rfl rfl (pu_pick_t rfl rfl rfl) rfl rfl (by kernel_rfl) ?_ | refine a_pu 23 rfl rfl rfl rfl (pu_pick_f rfl rfl rfl) rfl rfl (by kernel_rfl) ?_
      refine a_done (by kernel_rfl) ?_
      (repeat refine g_seq ?_)
      refine g_cond_f rfl (g_skip ?_)
      refine g_blk ?_
      (repeat refine g_seq ?_)
      refine g_region ?_
      refine g_pu rfl rfl rfl (pu_move rfl rfl) ?_
      refine g_pu rfl rfl rfl (pu_addI rfl rfl rfl (by omega)) ?_
      refine g_pu rfl rfl rfl (pu_assign rfl rfl) ?_
      refine g_nil ?_
      exact g_round (j + 1) ⟨by omega, fun b z hb hz => by
        by_cases hbj : b = j
        · subst hbj; rw [g1] at hz; cases hz; exact ⟨hnm, hid⟩
        · exact hin b z (by omega) hz⟩ (by omega) ⟨rfl, rfl, rfl, trivial⟩ trivial
    · (repeat refine g_seq ?_)
      refine g_region ?_
      refine g_pu rfl rfl rfl (pu_move rfl rfl) ?_
      refine g_pu rfl rfl rfl (pu_move rfl rfl) ?_
      refine g_pu rfl rfl rfl (pu_lss_f rfl rfl rfl (by omega)) ?_
      refine g_nil ?_
      (repeat refine g_seq ?_)
      refine g_cond_f rfl (g_exit rfl ?_)
      refine g_blk ?_
      (repeat refine g_seq ?_)
      refine g_region ?_
      refine g_pu rfl rfl rfl (pu_move rfl rfl) ?_
      refine g_pu rfl rfl rfl (pu_addI rfl rfl rfl (by omega)) ?_
      refine g_pu rfl rfl rfl (pu_assign rfl rfl) ?_
      refine g_nil ?_
      exact g_round (i + 1) ⟨by omega, fun a b x2 y2 hba ha hx hy => by
        by_cases hai : a = i
        · subst hai; rw [h1] at hx; cases hx; exact hin b y2 (by omega) hy
        · exact hon a b x2 y2 hba (by omega) hx hy⟩ (by omega) ⟨rfl, rfl, trivial⟩ trivial
  · (repeat refine g_seq ?_)
    refine g_region ?_
    refine g_pu rfl rfl rfl (pu_move rfl rfl) ?_
    refine g_pu rfl rfl rfl (pu_move rfl rfl) ?_
    first | refine g_pu rfl rfl rfl (pu_len rfl rfl) ?_ | refine g_pu rfl rfl rfl (pu_lenS rfl rfl) ?_
    refine g_pu rfl rfl rfl (pu_lss_f rfl rfl rfl (by omega)) ?_
    refine g_nil ?_
    (repeat refine g_seq ?_)
    refine g_cond_f rfl (g_exit rfl ?_)
    rw [chkN_0 (by omega) hall fun a b x y hba hx hy => hon a b x y hba (by have := (List.getElem?_eq_some_iff.1 hx).1; omega) hx hy]
    (repeat refine g_seq ?_)
    refine g_region ?_
    refine g_pu rfl rfl rfl (pu_assign rfl rfl) ?_
    refine g_nil ?_
    exact g_ret1 rfl rfl (fun w' hm => ⟨(), trivial, rfl, hm.grows [] trivial rfl⟩)
end Go.Sx

import Derived.Test.YtfbcmndhjoebbaaZdD3
import Derived.Test.YtfbcmndhjoebbaaZdGM
set_option linter.unusedVariables false
set_option linter.unusedSimpArgs false
/-
  Nodes that are made: of the program and of the document. The seed is at most 2^47 - 4352 bytes, and the names fit memory.
-/
namespace Go.Sx
open Go Go.Proofs

theorem st_storeA {P : Program} {N : Nat} {w0 : World} {D : Blocks} {e : List (Nat × Value)} {M : List (Nat × Ck)} {o : Oper} (tag : Nat) {t : TypeId} {x y : Operand} {b off s : Nat} {L C : List Value} {E : TypeId} [hz : Siz P t s] (ho : o.op = .store t x y) (hx : ev e x = some (.pointer (some ⟨b, off, none⟩))) (hy : ev e y = some (.agg C.toArray))
    (hM : mget M tag = some (.pt b (.cells L.toArray E (0, 0)))) (hC : C.length = s) (hv : ∀ u ∈ C, u.oneCell' = true) (hl : off + s ≤ L.length) : St P N w0 D e M o ((tag, .pt b (.cells (L.take off ++ C ++ L.drop (off + s)).toArray E (0, 0))) :: M) := by
  subst hC
  intro a w hs hm
  have h1 := hm.holds _ _ hM
  simp only [Ck.holds] at h1
  have hst := run_storeCells_at P b off E C 0 L.toArray w h1 (by simpa using hl) hv
  simp only [Nat.add_zero] at hst
  refine ⟨_, ?_, hm.setRow tag hM⟩
  simp [execOp, ho, hs.eval hx, hs.eval hy, Instr.storeAt, Instr.sureAddr, storeVar, run_size hz.h, Value.cells]
  rw [hst]
  simp

def nodeK : List (BitVec 8) := [110#8, 111#8, 100#8, 101#8]
def idN (i : Nat) : BitVec 64 := BitVec.ofInt 64 (i : Int) + 1#64
def n0 (s : ByteArray) (i : Nat) : Hop := ⟨s, idN i, zero32, zero32, 0, 0⟩
def pvN (seed : List (BitVec 8)) (s : ByteArray) : List (BitVec 8) := expL (hmacL nodeK seed) (bytesOf s) 32
def n1 (seed : List (BitVec 8)) (s : ByteArray) (i : Nat) : Hop := ⟨s, idN i, pvN seed s, xmV (pvN seed s) nine, 0, 0⟩
theorem pvN_length (seed : List (BitVec 8)) (s : ByteArray) : (pvN seed s).length = 32 := expL_length 32
theorem n0_ok (s : ByteArray) (i : Nat) : (n0 s i).ok := ⟨List.length_replicate, List.length_replicate⟩
theorem n1_ok (seed : List (BitVec 8)) (s : ByteArray) (i : Nat) : (n1 seed s i).ok := ⟨pvN_length seed s, xmV_length _ _⟩
def initN (ss : List ByteArray) : List Hop := ss.zipIdx.map fun p => n0 p.1 p.2
def finN (seed : List (BitVec 8)) (ss : List ByteArray) : List Hop := ss.zipIdx.map fun p => n1 seed p.1 p.2
theorem initN_length (ss : List ByteArray) : (initN ss).length = ss.length := by simp [initN]
theorem finN_length (seed : List (BitVec 8)) (ss : List ByteArray) : (finN seed ss).length = ss.length := by simp [finN]
theorem initN_get {ss : List ByteArray} {i : Nat} {s : ByteArray} (h : ss[i]? = some s) : (initN ss)[i]? = some (n0 s i) := by simp [initN, h]
theorem finN_get {seed : List (BitVec 8)} {ss : List ByteArray} {i : Nat} {s : ByteArray} (h : ss[i]? = some s) : (finN seed ss)[i]? = some (n1 seed s i) := by simp [finN, h]
theorem initN_ok (ss : List ByteArray) : ∀ x ∈ initN ss, x.ok := fun x hx => by
  obtain ⟨p, _, rfl⟩ := List.mem_map.1 hx
  exact n0_ok _ _
theorem finN_ok (seed : List (BitVec 8)) (ss : List ByteArray) : ∀ x ∈ finN seed ss, x.ok := fun x hx => by
  obtain ⟨p, _, rfl⟩ := List.mem_map.1 hx
  exact n1_ok _ _ _
/-- The first j nodes are done. -/
def mixN (seed : List (BitVec 8)) (ss : List ByteArray) (j : Nat) : List Hop := (finN seed ss).take j ++ (initN ss).drop j
theorem mixN_zero (seed : List (BitVec 8)) (ss : List ByteArray) : mixN seed ss 0 = initN ss := by simp [mixN]
theorem mixN_all (seed : List (BitVec 8)) (ss : List ByteArray) : mixN seed ss ss.length = finN seed ss := by
  unfold mixN
  rw [List.take_of_length_le (by rw [finN_length]; omega), List.drop_of_length_le (by rw [initN_length]; omega), List.append_nil]
theorem mixN_length {seed : List (BitVec 8)} {ss : List ByteArray} {j : Nat} (h : j ≤ ss.length) : (mixN seed ss j).length = ss.length := by
  unfold mixN
  rw [List.length_append, List.length_take, List.length_drop, finN_length, initN_length]; omega
theorem mixN_ok (seed : List (BitVec 8)) (ss : List ByteArray) (j : Nat) : ∀ x ∈ mixN seed ss j, x.ok := fun x hx => by
  rcases List.mem_append.1 hx with h | h
  · exact finN_ok seed ss x (List.mem_of_mem_take h)
  · exact initN_ok ss x (List.mem_of_mem_drop h)
theorem mixN_get {seed : List (BitVec 8)} {ss : List ByteArray} {j : Nat} {s : ByteArray} (h : ss[j]? = some s) : (mixN seed ss j)[j]? = some (n0 s j) := by
  have hj := (List.getElem?_eq_some_iff.1 h).1
  unfold mixN
  rw [List.getElem?_append_right (by rw [List.length_take]; omega), List.length_take, finN_length, Nat.min_eq_left (by omega), Nat.sub_self, List.getElem?_drop, Nat.add_zero]
  exact initN_get h
theorem mixN_set {seed : List (BitVec 8)} {ss : List ByteArray} {j : Nat} {s : ByteArray} (h : ss[j]? = some s) : (mixN seed ss j).set j (n1 seed s j) = mixN seed ss (j + 1) := by
  have hj := (List.getElem?_eq_some_iff.1 h).1
  have hl : ((finN seed ss).take j).length = j := by rw [List.length_take, finN_length]; omega
  have hi := initN_get h
  unfold mixN
  rw [List.set_append_right _ _ (by omega), hl, Nat.sub_self, List.take_add_one, finN_get h]
  have e : (initN ss).drop j = n0 s j :: (initN ss).drop (j + 1) := by
    have h2 := List.drop_eq_getElem_cons (l := initN ss) (i := j) (by rw [initN_length]; exact hj)
    rw [h2]
    congr 1
    have h3 := List.getElem?_eq_getElem (l := initN ss) (i := j) (by rw [initN_length]; exact hj)
    rw [hi] at h3
    exact (Option.some.inj h3).symm
  rw [e, List.set_cons_zero]
  simp
theorem nodsC_put {hs : List Hop} {j o n : Nat} {x y : Hop} {C : List Value} (hm : ∀ x ∈ hs, x.ok) (h : hs[j]? = some x) (hy : (nodeC x).take o ++ C ++ (nodeC x).drop (o + n) = nodeC y) (hon : o + n ≤ 66) (J : List Value) :
    (nodsC hs ++ J).take (j * 66 + o) ++ C ++ (nodsC hs ++ J).drop (j * 66 + o + n) = nodsC (hs.set j y) ++ J := by
  have hj := (List.getElem?_eq_some_iff.1 h).1
  have hl := nodsC_take hm (show j ≤ hs.length by omega)
  have hxl := nodeC_length (hm x (List.mem_of_getElem? h))
  have h2 : (hs.set j y)[j]? = some y := by rw [List.getElem?_set_self hj]
  rw [nodsC_split h, nodsC_split h2]
  have e1 : (hs.set j y).take j = hs.take j := by rw [List.take_set_of_le (by omega)]
  have e2 : (hs.set j y).drop (j + 1) = hs.drop (j + 1) := by rw [List.drop_set_of_lt (by omega)]
  rw [e1, e2, ← hy]
  generalize nodsC (hs.take j) = A at hl
  generalize nodsC (hs.drop (j + 1)) = B
  generalize nodeC x = X at hxl
  rw [show A ++ (X ++ B) ++ J = A ++ (X ++ (B ++ J)) by simp]
  rw [show j * 66 + o = A.length + o by omega, List.take_length_add_append, Nat.add_assoc, List.drop_length_add_append]
  rw [List.take_append_of_le_length (by omega), List.drop_append_of_le_length (by omega)]
  simp
theorem node_putv {x : Hop} (ho : x.ok) (pv : List (BitVec 8)) : (nodeC x).take 2 ++ bs pv ++ (nodeC x).drop (2 + 32) = nodeC { x with pv := pv } := by
  have e : (nodeC x).drop (2 + 32) = bs x.pb := by
    show (bs x.pv ++ bs x.pb).drop 32 = _
    exact List.drop_left' (by rw [bs_length, ho.1])
  rw [e]
  show [Value.string x.name, b64 x.id] ++ bs pv ++ bs x.pb = [Value.string x.name, b64 x.id] ++ (bs pv ++ bs x.pb)
  rw [List.append_assoc]
theorem node_putb {x : Hop} (ho : x.ok) (pb : List (BitVec 8)) : (nodeC x).take 34 ++ bs pb ++ (nodeC x).drop (34 + 32) = nodeC { x with pb := pb } := by
  have hl := nodeC_length ho
  have e : (nodeC x).drop (34 + 32) = [] := List.drop_of_length_le (by omega)
  have e2 : (nodeC x).take 34 = [Value.string x.name, b64 x.id] ++ bs x.pv := by
    show [Value.string x.name, b64 x.id] ++ (bs x.pv ++ bs x.pb).take 32 = _
    rw [List.take_left' (by rw [bs_length, ho.1])]
  rw [e, e2, List.append_nil, List.append_assoc]
  rfl
/-- A node of which the private key is made. -/
def nhN (seed : List (BitVec 8)) (s : ByteArray) (j : Nat) : Hop := ⟨s, idN j, pvN seed s, zero32, 0, 0⟩
theorem nhN_ok (seed : List (BitVec 8)) (s : ByteArray) (j : Nat) : (nhN seed s j).ok := ⟨pvN_length seed s, List.length_replicate⟩
noncomputable def makeN (seed : List (BitVec 8)) (ss : List ByteArray) : List Hop × Int := if chkN (initN ss) = 0 then (finN seed ss, 0) else ([], chkN (initN ss))
theorem okN_size {x : Hop} (h : okN x = true) : x.name.size ≤ 16 := by
  unfold okN at h
  simp only [Bool.and_eq_true] at h
  have := nameOk_len h.1
  rw [bytesOf_length] at this
  omega

theorem DMake_b (w : World) {p q : Option Addr} {n m : Nat} (c d : Nat) {seed : List (BitVec 8)} {ss : List ByteArray} (ha : By w p n seed) (hq : RdV w q (ss.map Value.string)) (hm' : ss.length = m) (hnb : n ≤ 140737488355136) (hmb : m ≤ 1599289640401) :
    Spec Try.prog 14 #[.slice p n c, .slice q m d] w (σ := Ow) (fun _ => True) (fun x => .tuple #[x.sl (makeN seed ss).1.length, .int .i64 (makeN seed ss).2]) Nob (fun x => [x.ck 45 66 (nodsC (makeN seed ss).1)]) := by
  refine enter Try.func14 rfl rfl (Mem.start w) ?_
  have hml : (ss.map Value.string).length = m := by rw [List.length_map, hm']
  have hil := initN_length ss
  have hio := initN_ok ss
  (repeat refine g_seq ?_)
  refine g_region ?_
  refine g_pu rfl rfl rfl (pu_assign rfl rfl) ?_
  refine g_pu rfl rfl rfl (pu_assign rfl rfl) ?_
  refine g_nil ?_
  (repeat refine g_seq ?_)
  refine g_region ?_
  refine g_pu rfl rfl rfl (pu_assign rfl rfl) ?_
  refine g_nil ?_
  refine g_nilOwn 90 45 66 rfl ?_
  (repeat refine g_seq ?_)
  refine g_region ?_
  refine g_pu rfl rfl rfl (pu_move rfl rfl) ?_
  first | refine g_pu rfl rfl rfl (pu_len rfl rfl) ?_ | refine g_pu rfl rfl rfl (pu_lenS rfl rfl) ?_
  refine g_pu rfl rfl rfl (pu_move rfl rfl) ?_
  refine g_nil ?_
  (repeat refine g_seq ?_)
  refine g_block (g_loop2 (fun (i : Nat) (x : Ow) => [(0, .slice p n c), (1, .slice q m d), (6, x.sl i), (16, .slice q m d), (17, .int .i64 (m : Int)), (18, .int .i64 (i : Int))]) (fun i x => [(90, x.ck 45 66 (nodsC ((initN ss).take i)))]) (fun i _ => i ≤ m) (fun i _ => m - i) 0 ⟨none, 0⟩ ⟨rfl, rfl, rfl, rfl, rfl, rfl, trivial⟩ ⟨rfl, trivial⟩ (by omega) ?_)
  intro i x hi
  by_cases hlt : i < m
  · (repeat refine g_seq ?_)
    refine g_region ?_
    first | refine g_pu rfl rfl rfl (pu_lss_t rfl rfl rfl (by omega)) ?_ | refine g_pu rfl rfl rfl (pu_lss_f rfl rfl rfl (by omega)) ?_ | refine g_pu rfl rfl rfl (pu_lss rfl rfl rfl) ?_
    refine g_nil ?_
    (repeat refine g_seq ?_)
    refine g_cond_t rfl (g_skip ?_)
    have h1 : ss[i]? = some ss[i] := List.getElem?_eq_getElem (by omega)
    generalize ss[i] = s at h1
    have h2 : (ss.map Value.string)[i]? = some (.string s) := by rw [List.getElem?_map, h1]; rfl
    have hxl := nodeC_length (n0_ok s i)
    have hA := nodsC_at (initN_get h1)
    have htl := nodsC_take (i := i) hio (by omega)
    have hsq : seqCells 66 0 [(0, Value.agg (nodeC (n0 s i)).toArray)] = some (nodeC (n0 s i)) := by simp [seqCells, Value.cells, hxl]
    (repeat refine g_seq ?_); refine g_block ?_
    (repeat refine g_seq ?_)
    refine g_region ?_
    refine g_pu rfl rfl rfl (pu_move rfl rfl) ?_
    refine g_pu rfl rfl rfl (pu_atM1 i (fun w' hm => hq.mem0 hm) rfl rfl rfl rfl hlt (by omega)) ?_
    refine g_pu rfl rfl rfl (pu_rdM (fun w' hm => hq.mem0 hm) rfl rfl h2) ?_
    refine g_pu rfl rfl rfl (pu_assign rfl rfl) ?_
    refine g_pu rfl rfl rfl (pu_assign rfl rfl) ?_
    refine g_nil ?_
    (repeat refine g_seq ?_)
    refine g_region ?_
    refine g_pu rfl rfl rfl (pu_move rfl rfl) ?_
    refine g_pu rfl rfl rfl (pu_move rfl rfl) ?_
    refine g_pu rfl rfl rfl (pu_move rfl rfl) ?_
    refine g_pu rfl rfl rfl (pu_convI_64 rfl rfl) ?_
    refine g_pu rfl rfl rfl (pu_add64 (b := 1#64) rfl rfl rfl) ?_
    refine g_pu rfl rfl rfl (pu_buildS (cs := nodeC (n0 s i)) rfl rfl rfl) ?_
    refine g_lo [29] rfl rfl rfl rfl (lo_buildSlice rfl rfl (by decide) (by decide) rfl hsq) (fun q29 hq29 => ?_)
    refine g_append 90 (s := 66) (nodeC (n0 s i)) rfl rfl rfl (by omega) rfl rfl rfl rfl rfl htl (fun w' hm => hm.rowA 29 rfl) hxl (oneCell_node _) (by omega) (by omega) (fun p' c' => ?_)
    rw [← hA]
    refine g_pu rfl rfl rfl (pu_assign rfl rfl) ?_
    refine g_nil ?_
    refine g_blk ?_
    (repeat refine g_seq ?_)
    refine g_region ?_
    refine g_pu rfl rfl rfl (pu_addI rfl rfl rfl (by omega)) ?_
    refine g_pu rfl rfl rfl (pu_move rfl rfl) ?_
    refine g_nil ?_
    exact g_round2 (i + 1) (⟨p', c'⟩ : Ow) (by omega) (by omega) ⟨rfl, rfl, rfl, rfl, rfl, rfl, trivial⟩ ⟨rfl, trivial⟩
  · (repeat refine g_seq ?_)
    refine g_region ?_
    first | refine g_pu rfl rfl rfl (pu_lss_t rfl rfl rfl (by omega)) ?_ | refine g_pu rfl rfl rfl (pu_lss_f rfl rfl rfl (by omega)) ?_ | refine g_pu rfl rfl rfl (pu_lss rfl rfl rfl) ?_
    refine g_nil ?_
    (repeat refine g_seq ?_)
    refine g_cond_f rfl (g_exit rfl ?_)
    have e1 : i = m := by omega
    subst e1
    rw [List.take_of_length_le (by omega)]
    (repeat refine g_seq ?_)
    refine g_region ?_
    refine g_pu rfl rfl rfl (pu_move rfl rfl) ?_
    refine g_call [] rfl rfl rfl rfl rfl rfl (fun w' hm => DCheck_b w' x.c (hs := initN ss) (Ow.rd (t := 90) rfl hm) (by omega) hio) (fun _ _ => ?_)
    refine g_pu rfl rfl rfl (pu_assign rfl rfl) ?_
    refine g_nil ?_
    by_cases h0 : chkN (initN ss) = 0
    · have hM : makeN seed ss = (finN seed ss, 0) := if_pos h0
      obtain ⟨h64, hok, _⟩ := chkN_ok h0
      have hfl := finN_length seed ss
      have hhl := hmacL_length nodeK seed
      rw [hM, h0]
      dsimp only
      rw [hfl, hm']
      (repeat refine g_seq ?_)
      refine g_region ?_
      refine g_pu rfl rfl rfl (pu_move rfl rfl) ?_
      refine g_pu rfl rfl rfl (pu_neq_f rfl rfl rfl (fun h => h rfl)) ?_
      refine g_nil ?_
      (repeat refine g_seq ?_)
      refine g_cond_f rfl (g_skip ?_)
      (repeat refine g_seq ?_)
      refine g_region ?_
      refine g_lo [37] rfl rfl rfl rfl (lo_buildSlice rfl rfl (by decide) (by decide) rfl rfl) (fun b37 hb37 => ?_)
      refine g_mark 37 rfl rfl rfl rfl rfl rfl ?_
      refine g_pu rfl rfl rfl (pu_move rfl rfl) ?_
      refine g_call [] rfl rfl rfl rfl rfl rfl (fun w' hm => Extract_b w' _ c (key := nodeK) (By.full 37 rfl hm rfl (by omega)) (ha.m hm) (by omega) (by omega)) (fun _ _ => ?_)
      refine g_lo [10] rfl rfl rfl rfl (lo_alloc rfl) (fun b10 hb10 => ?_)
      refine g_storeL 10 (s := 32) (C := bs (hmacL nodeK seed)) rfl rfl rfl rfl rfl rfl (by rw [bs_length, hhl]) rfl (oneCell_bs _) ?_
      refine g_nil ?_
      (repeat refine g_seq ?_)
      refine g_region ?_
      refine g_pu rfl rfl rfl (pu_move rfl rfl) ?_
      first | refine g_pu rfl rfl rfl (pu_len rfl rfl) ?_ | refine g_pu rfl rfl rfl (pu_lenS rfl rfl) ?_
      refine g_pu rfl rfl rfl (pu_move rfl rfl) ?_
      refine g_nil ?_
      (repeat refine g_seq ?_)
      refine g_block (g_loop (σ := Nat) (fun j => [(6, x.sl i), (10, .pointer (some ⟨b10, 0, none⟩)), (41, x.sl i), (42, .int .i64 (i : Int)), (43, .int .i64 (j : Int))]) (fun j => [(10, .pt b10 (.cells (bs (hmacL nodeK seed)).toArray 43 (0, 0))), (90, x.ck 45 66 (nodsC (mixN seed ss j)))]) (fun j => j ≤ i) (fun j => i - j) 0 ⟨rfl, rfl, rfl, rfl, rfl, trivial⟩ ⟨rfl, by rw [mixN_zero]; rfl, trivial⟩ (by omega) ?_)
      intro j hj
      by_cases hlt2 : j < i
      · (repeat refine g_seq ?_)
        refine g_region ?_
        first | refine g_pu rfl rfl rfl (pu_lss_t rfl rfl rfl (by omega)) ?_ | refine g_pu rfl rfl rfl (pu_lss_f rfl rfl rfl (by omega)) ?_ | refine g_pu rfl rfl rfl (pu_lss rfl rfl rfl) ?_
        refine g_nil ?_
        (repeat refine g_seq ?_)
        refine g_cond_t rfl (g_skip ?_)
        have h1 : ss[j]? = some ss[j] := List.getElem?_eq_getElem (by omega)
        generalize ss[j] = s at h1
        have hs16 : s.size ≤ 16 := okN_size (hok _ (List.mem_of_getElem? (initN_get h1)))
        have hbo := bytesOf_length s
        have hmo := mixN_ok seed ss j
        have hmg := mixN_get (seed := seed) h1
        have hml2 := mixN_length (seed := seed) (show j ≤ ss.length by omega)
        have hcl := nodsC_length hmo
        have hc0 := nodsC_cell hmo hmg (node_0 _)
        have hpvl := pvN_length seed s
        have hpvb : (bs (pvN seed s)).length = 32 := by rw [bs_length, hpvl]
        have hxvl := xmV_length (pvN seed s) nine
        have hxvb : (bs (xmV (pvN seed s) nine)).length = 32 := by rw [bs_length, hxvl]
        have hE := pub_ok hpvl
        have hP1 := fun J => nodsC_put (y := nhN seed s j) hmo hmg (node_putv (n0_ok s j) (pvN seed s)) (by omega) J
        have hok2 : ∀ y ∈ (mixN seed ss j).set j (nhN seed s j), y.ok := fun y hy => by
          rcases List.mem_or_eq_of_mem_set hy with h | h
          · exact hmo y h
          · rw [h]; exact nhN_ok _ _ _
        have hg2 : ((mixN seed ss j).set j (nhN seed s j))[j]? = some (nhN seed s j) := by rw [List.getElem?_set_self (by omega)]
        have hP2 := fun J => nodsC_put (y := n1 seed s j) hok2 hg2 (node_putb (nhN_ok seed s j) (xmV (pvN seed s) nine)) (by omega) J
        have hP3 : ((mixN seed ss j).set j (nhN seed s j)).set j (n1 seed s j) = mixN seed ss (j + 1) := by
          rw [List.set_set, ← mixN_set h1]
        rw [hP3] at hP2
        have hcl2 := nodsC_length hok2
        rw [List.length_set] at hcl2
        have hcl3 := nodsC_length (mixN_ok seed ss (j + 1))
        have hml3 := mixN_length (seed := seed) (show j + 1 ≤ ss.length by omega)
        (repeat refine g_seq ?_); refine g_block ?_
        obtain ⟨xp, xc⟩ := x
        refine g_row 90 rfl (by omega) (fun bb J hp hJ hcap => ?_)
        simp only at hp
        subst hp
        (repeat refine g_seq ?_)
        refine g_region ?_
        refine g_pu rfl rfl rfl (pu_move rfl rfl) ?_
        refine g_pu rfl rfl rfl (pu_assign rfl rfl) ?_
        refine g_nil ?_
        (repeat refine g_seq ?_)
        refine g_any (14, []) ?_
        refine a_pu 0 rfl rfl rfl rfl (pu_sliceA rfl rfl) rfl rfl (by kernel_rfl) ?_
        refine a_pu 1 rfl rfl rfl rfl (pu_move rfl rfl) rfl rfl (by kernel_rfl) ?_
        refine a_pu 2 rfl rfl rfl rfl (pu_move rfl rfl) rfl rfl (by kernel_rfl) ?_
        refine a_pu 3 rfl rfl rfl rfl (pu_at j (s := 66) rfl rfl rfl rfl hlt2) rfl rfl (by kernel_rfl) ?_
        refine a_pu 4 rfl rfl rfl rfl (pu_fieldAddr (by decide) rfl rfl) rfl rfl (by kernel_rfl) ?_
        refine a_pu 5 rfl rfl rfl rfl (pu_load 90 (v := .string s) rfl rfl rfl (by rw [show 0 + j * 66 + 0 = j * 66 + 0 by omega, List.getElem?_toArray, List.getElem?_append_left (by omega)]; exact hc0)) rfl rfl (by kernel_rfl) ?_
        refine a_do 6 53 [53] (does_lo rfl rfl rfl (lo_bytesOf (str := s) rfl rfl (by omega))) rfl rfl (by kernel_rfl) rfl rfl (by kernel_rfl) (by kernel_rfl) (by kernel_rfl) rfl (fun p hp => by cases hp) ?_; rintro v_ cs_ ⟨x53, hx53, rfl, rfl⟩
        refine a_do 7 54 [54] (does_lo rfl rfl rfl (lo_buildSlice rfl rfl (by decide) (by decide) rfl rfl)) rfl rfl (by kernel_rfl) rfl rfl (by kernel_rfl) (by kernel_rfl) (by kernel_rfl) rfl (fun p hp => by cases hp) ?_; rintro v_ cs_ ⟨b54, hb54, rfl, rfl⟩
        refine a_do 8 55 [55] (does_call rfl rfl rfl rfl rfl (fun w' hm => Expand_b w' _ 1 32 (key := hmacL nodeK seed) (L := [.slice (some ⟨x53.1, 0, none⟩) s.size x53.2]) (ls := [bytesOf s]) (By.full 10 rfl hm hhl (by omega)) ⟨hm.rowA 54 rfl, rfl, All2.cons ⟨_, _, _, rfl, ⟨hm.row 53 rfl, hbo, by omega⟩, fun _ _ => trivial⟩ All2.nil, by omega⟩ (by omega) (by omega) (by omega) (by rw [flat1]; omega))) rfl rfl (by kernel_rfl) rfl rfl (by kernel_rfl) (by kernel_rfl) (by kernel_rfl) rfl (fun p hp => by cases hp) ?_; rintro v_ cs_ ⟨x55, _, rfl, rfl⟩
        rw [flat1, show expL (hmacL nodeK seed) (bytesOf s) 32 = pvN seed s from rfl]
        refine a_pu 9 rfl rfl rfl rfl (pu_move rfl rfl) rfl rfl (by kernel_rfl) ?_
        refine a_pu 10 rfl rfl rfl rfl (pu_extract rfl rfl rfl) rfl rfl (by kernel_rfl) ?_
        refine a_pu 11 rfl rfl rfl rfl (pu_extract rfl rfl rfl) rfl rfl (by kernel_rfl) ?_
        refine a_pu 12 rfl rfl rfl rfl (pu_assign rfl rfl) rfl rfl (by kernel_rfl) ?_
        refine a_pu 13 rfl rfl rfl rfl (pu_assign rfl rfl) rfl rfl (by kernel_rfl) ?_
        refine a_done (by kernel_rfl) ?_
        (repeat refine g_seq ?_)
        refine g_region ?_
        refine g_pu rfl rfl rfl (pu_move rfl rfl) ?_
        refine g_call [] rfl rfl rfl rfl rfl rfl (fun w' hm => NewPair_b w' x55.c (k := pvN seed s) (By.ow 55 rfl hm hpvl (by omega))) (fun _ _ => ?_)
        rw [show npC (pvN seed s) = prC (pvN seed s) (xmV (pvN seed s) nine) from if_pos hE]
        refine g_pu rfl rfl rfl (pu_move rfl rfl) ?_
        refine g_pu rfl rfl rfl (pu_extract rfl rfl rfl) ?_
        refine g_pu rfl rfl rfl (pu_extract rfl rfl rfl) ?_
        refine g_lo [14] rfl rfl rfl rfl (lo_alloc rfl) (fun b14 hb14 => ?_)
        refine g_storeL 14 (s := 64) (C := prC (pvN seed s) (xmV (pvN seed s) nine)) rfl rfl rfl rfl rfl rfl (prC_length hpvl hxvl) rfl (oneCell_prC _ _) ?_
        refine g_pu rfl rfl rfl (pu_assign rfl rfl) ?_
        refine g_nil ?_
        (repeat refine g_seq ?_)
        refine g_anyK [(14, .pt b14 (.cells (prC (pvN seed s) (xmV (pvN seed s) nine)).toArray 88 (0, 0)))] ?_
        refine a_puK 0 rfl rfl rfl rfl ⟨rfl, trivial⟩ (pu_move rfl rfl) (by kernel_rfl) ?_
        refine a_puK 1 rfl rfl rfl rfl ⟨rfl, trivial⟩ (pu_move rfl rfl) (by kernel_rfl) ?_
        refine a_puK 2 rfl rfl rfl rfl ⟨rfl, trivial⟩ (pu_move rfl rfl) (by kernel_rfl) ?_
        refine a_puK 3 rfl rfl rfl rfl ⟨rfl, trivial⟩ (pu_move rfl rfl) (by kernel_rfl) ?_
        refine a_puK 4 rfl rfl rfl rfl ⟨rfl, trivial⟩ (pu_fieldAddr (by decide) rfl rfl) (by kernel_rfl) ?_
        refine a_puK 5 rfl rfl rfl rfl ⟨rfl, trivial⟩ (pu_loadE 14 (bs (pvN seed s)).toArray rfl rfl rfl (by rw [List.size_toArray, prC_length hpvl hxvl]; omega) (prC_fst hpvl)) (by kernel_rfl) ?_
        refine a_puK 6 rfl rfl rfl rfl ⟨rfl, trivial⟩ (pu_fieldAddr (by decide) rfl rfl) (by kernel_rfl) ?_
        refine a_puK 7 rfl rfl rfl rfl ⟨rfl, trivial⟩ (pu_loadE 14 (bs (xmV (pvN seed s) nine)).toArray rfl rfl rfl (by rw [List.size_toArray, prC_length hpvl hxvl]; omega) (prC_snd hpvl hxvl)) (by kernel_rfl) ?_
        refine a_puK 8 rfl rfl rfl rfl ⟨rfl, trivial⟩ (pu_at j (s := 66) rfl rfl rfl rfl hlt2) (by kernel_rfl) ?_
        refine a_puK 9 rfl rfl rfl rfl ⟨rfl, trivial⟩ (pu_fieldAddr (by decide) rfl rfl) (by kernel_rfl) ?_
        refine a_stK 10 rfl rfl rfl (st_storeA 90 (s := 32) (off := 0 + j * 66 + 2) (C := bs (pvN seed s)) (L := nodsC (mixN seed ss j) ++ J) rfl rfl rfl rfl hpvb (oneCell_bs _) (by rw [List.length_append]; omega)) ⟨rfl, trivial⟩ (by kernel_rfl) ?_
        rw [show 0 + j * 66 + 2 = j * 66 + 2 by omega, hP1 J]
        refine a_puK 11 rfl rfl rfl rfl ⟨rfl, trivial⟩ (pu_at j (s := 66) rfl rfl rfl rfl hlt2) (by kernel_rfl) ?_
        refine a_puK 12 rfl rfl rfl rfl ⟨rfl, trivial⟩ (pu_fieldAddr (by decide) rfl rfl) (by kernel_rfl) ?_
        refine a_stK 13 rfl rfl rfl (st_storeA 90 (s := 32) (off := 0 + j * 66 + 34) (C := bs (xmV (pvN seed s) nine)) (L := nodsC ((mixN seed ss j).set j (nhN seed s j)) ++ J) rfl rfl rfl rfl hxvb (oneCell_bs _) (by rw [List.length_append]; omega)) ⟨rfl, trivial⟩ (by kernel_rfl) ?_
        rw [show 0 + j * 66 + 34 = j * 66 + 34 by omega, hP2 J]
        refine a_doneK (by kernel_rfl) ?_
        refine g_own 90 (L := nodsC (mixN seed ss (j + 1))) (J := J) (c := xc) (s := 66) rfl (by simp only [List.length_append] at hJ ⊢; omega) hcap ?_
        refine g_blk ?_
        (repeat refine g_seq ?_)
        refine g_region ?_
        refine g_pu rfl rfl rfl (pu_addI rfl rfl rfl (by omega)) ?_
        refine g_pu rfl rfl rfl (pu_move rfl rfl) ?_
        refine g_nil ?_
        exact g_round (j + 1) (by omega) (by omega) ⟨rfl, rfl, rfl, rfl, rfl, trivial⟩ ⟨rfl, rfl, trivial⟩
      · (repeat refine g_seq ?_)
        refine g_region ?_
        first | refine g_pu rfl rfl rfl (pu_lss_t rfl rfl rfl (by omega)) ?_ | refine g_pu rfl rfl rfl (pu_lss_f rfl rfl rfl (by omega)) ?_ | refine g_pu rfl rfl rfl (pu_lss rfl rfl rfl) ?_
        refine g_nil ?_
        (repeat refine g_seq ?_)
        refine g_cond_f rfl (g_exit rfl ?_)
        have e2 : j = ss.length := by omega
        subst e2
        rw [mixN_all]
        (repeat refine g_seq ?_)
        refine g_region ?_
        refine g_pu rfl rfl rfl (pu_move rfl rfl) ?_
        refine g_pu rfl rfl rfl (pu_assign rfl rfl) ?_
        refine g_pu rfl rfl rfl (pu_assign rfl rfl) ?_
        refine g_nil ?_
        exact g_ret2 rfl rfl rfl (fun w' hm => ⟨x, trivial, by rw [← hm'], hm.grows [90] ⟨rfl, trivial⟩ rfl⟩)
    · have hM : makeN seed ss = ([], chkN (initN ss)) := if_neg h0
      rw [hM]
      dsimp only
      (repeat refine g_seq ?_)
      refine g_region ?_
      refine g_pu rfl rfl rfl (pu_move rfl rfl) ?_
      refine g_pu rfl rfl rfl (pu_neq_t rfl rfl rfl h0) ?_
      refine g_nil ?_
      (repeat refine g_seq ?_)
      refine g_cond_t rfl ?_
      (repeat refine g_seq ?_)
      refine g_region ?_
      refine g_pu rfl rfl rfl (pu_move rfl rfl) ?_
      refine g_pu rfl rfl rfl (pu_assign rfl rfl) ?_
      refine g_pu rfl rfl rfl (pu_assign rfl rfl) ?_
      refine g_nil ?_
      refine g_nilOwn 91 45 66 rfl ?_
      exact g_ret2 rfl rfl rfl (fun w' hm => ⟨⟨none, 0⟩, trivial, rfl, hm.grows [91] ⟨rfl, trivial⟩ rfl⟩)

theorem RDMake_b (w : World) {p q : Option Addr} {n m : Nat} (c d : Nat) {seed : List (BitVec 8)} {ss : List ByteArray} (ha : By w p n seed) (hq : RdV w q (ss.map Value.string)) (hm' : ss.length = m) (hnb : n ≤ 140737488355136) (hmb : m ≤ 1599289640401) :
    Spec Try.prog 16 #[.slice p n c, .slice q m d] w (σ := Ow) (fun _ => True) (fun x => .tuple #[x.sl (makeN seed ss).1.length, .int .i64 (makeN seed ss).2]) Nob (fun x => [x.ck 45 66 (nodsC (makeN seed ss).1)]) := by
  refine enter Try.func16 rfl rfl (Mem.start w) ?_
  have hml : (ss.map Value.string).length = m := by rw [List.length_map, hm']
  have hil := initN_length ss
  have hio := initN_ok ss
  (repeat refine g_seq ?_)
  refine g_region ?_
  refine g_pu rfl rfl rfl (pu_assign rfl rfl) ?_
  refine g_pu rfl rfl rfl (pu_assign rfl rfl) ?_
  refine g_nil ?_
  (repeat refine g_seq ?_)
  refine g_region ?_
  refine g_pu rfl rfl rfl (pu_assign rfl rfl) ?_
  refine g_nil ?_
  refine g_nilOwn 90 45 66 rfl ?_
  (repeat refine g_seq ?_)
  refine g_region ?_
  refine g_pu rfl rfl rfl (pu_assign rfl rfl) ?_
  refine g_nil ?_
  (repeat refine g_seq ?_)
  refine g_block (g_loop2 (fun (i : Nat) (x : Ow) => [(0, .slice p n c), (1, .slice q m d), (6, x.sl i), (7, .int .i64 (i : Int))]) (fun i x => [(90, x.ck 45 66 (nodsC ((initN ss).take i)))]) (fun i _ => i ≤ m) (fun i _ => m - i) 0 ⟨none, 0⟩ ⟨rfl, rfl, rfl, rfl, trivial⟩ ⟨rfl, trivial⟩ (by omega) ?_)
  intro i x hi
  by_cases hlt : i < m
  · (repeat refine g_seq ?_)
    refine g_region ?_
    refine g_pu rfl rfl rfl (pu_move rfl rfl) ?_
    refine g_pu rfl rfl rfl (pu_move rfl rfl) ?_
    first | refine g_pu rfl rfl rfl (pu_len rfl rfl) ?_ | refine g_pu rfl rfl rfl (pu_lenS rfl rfl) ?_
    refine g_pu rfl rfl rfl (pu_lss_t rfl rfl rfl (by omega)) ?_
    refine g_nil ?_
    (repeat refine g_seq ?_)
    refine g_cond_t rfl (g_skip ?_)
    have h1 : ss[i]? = some ss[i] := List.getElem?_eq_getElem (by omega)
    generalize ss[i] = s at h1
    have h2 : (ss.map Value.string)[i]? = some (.string s) := by rw [List.getElem?_map, h1]; rfl
    have hxl := nodeC_length (n0_ok s i)
    have hA := nodsC_at (initN_get h1)
    have htl := nodsC_take (i := i) hio (by omega)
    have hsq : seqCells 66 0 [(0, Value.agg (nodeC (n0 s i)).toArray)] = some (nodeC (n0 s i)) := by simp [seqCells, Value.cells, hxl]
    (repeat refine g_seq ?_); refine g_block ?_
    (repeat refine g_seq ?_)
    refine g_region ?_
    refine g_pu rfl rfl rfl (pu_move rfl rfl) ?_
    refine g_pu rfl rfl rfl (pu_move rfl rfl) ?_
    refine g_pu rfl rfl rfl (pu_move rfl rfl) ?_
    refine g_pu rfl rfl rfl (pu_atM1 i (fun w' hm => hq.mem0 hm) rfl rfl rfl rfl hlt (by omega)) ?_
    refine g_pu rfl rfl rfl (pu_rdM (fun w' hm => hq.mem0 hm) rfl rfl h2) ?_
    refine g_pu rfl rfl rfl (pu_move rfl rfl) ?_
    refine g_pu rfl rfl rfl (pu_convI_64 rfl rfl) ?_
    refine g_pu rfl rfl rfl (pu_add64 (b := 1#64) rfl rfl rfl) ?_
    refine g_pu rfl rfl rfl (pu_buildS (cs := nodeC (n0 s i)) rfl rfl rfl) ?_
    refine g_lo [28] rfl rfl rfl rfl (lo_buildSlice rfl rfl (by decide) (by decide) rfl hsq) (fun q28 hq28 => ?_)
    refine g_append 90 (s := 66) (nodeC (n0 s i)) rfl rfl rfl (by omega) rfl rfl rfl rfl rfl htl (fun w' hm => hm.rowA 28 rfl) hxl (oneCell_node _) (by omega) (by omega) (fun p' c' => ?_)
    rw [← hA]
    refine g_pu rfl rfl rfl (pu_assign rfl rfl) ?_
    refine g_nil ?_
    refine g_blk ?_
    (repeat refine g_seq ?_)
    refine g_region ?_
    refine g_pu rfl rfl rfl (pu_move rfl rfl) ?_
    refine g_pu rfl rfl rfl (pu_addI rfl rfl rfl (by omega)) ?_
    refine g_pu rfl rfl rfl (pu_assign rfl rfl) ?_
    refine g_nil ?_
    exact g_round2 (i + 1) (⟨p', c'⟩ : Ow) (by omega) (by omega) ⟨rfl, rfl, rfl, rfl, trivial⟩ ⟨rfl, trivial⟩
  · (repeat refine g_seq ?_)
    refine g_region ?_
    refine g_pu rfl rfl rfl (pu_move rfl rfl) ?_
    refine g_pu rfl rfl rfl (pu_move rfl rfl) ?_
    first | refine g_pu rfl rfl rfl (pu_len rfl rfl) ?_ | refine g_pu rfl rfl rfl (pu_lenS rfl rfl) ?_
    refine g_pu rfl rfl rfl (pu_lss_f rfl rfl rfl (by omega)) ?_
    refine g_nil ?_
    (repeat refine g_seq ?_)
    refine g_cond_f rfl (g_exit rfl ?_)
    have e1 : i = m := by omega
    subst e1
    rw [List.take_of_length_le (by omega)]
    (repeat refine g_seq ?_)
    refine g_region ?_
    refine g_pu rfl rfl rfl (pu_move rfl rfl) ?_
    refine g_call [] rfl rfl rfl rfl rfl rfl (fun w' hm => RDCheck_b w' x.c (hs := initN ss) (Ow.rd (t := 90) rfl hm) (by omega) hio) (fun _ _ => ?_)
    refine g_pu rfl rfl rfl (pu_assign rfl rfl) ?_
    refine g_nil ?_
    by_cases h0 : chkN (initN ss) = 0
    · have hM : makeN seed ss = (finN seed ss, 0) := if_pos h0
      obtain ⟨h64, hok, _⟩ := chkN_ok h0
      have hfl := finN_length seed ss
      have hhl := hmacL_length nodeK seed
      rw [hM, h0]
      dsimp only
      rw [hfl, hm']
      (repeat refine g_seq ?_)
      refine g_region ?_
      refine g_pu rfl rfl rfl (pu_move rfl rfl) ?_
      refine g_pu rfl rfl rfl (pu_neq_f rfl rfl rfl (fun h => h rfl)) ?_
      refine g_nil ?_
      (repeat refine g_seq ?_)
      refine g_cond_f rfl (g_skip ?_)
      (repeat refine g_seq ?_)
      refine g_region ?_
      refine g_lo [35] rfl rfl rfl rfl (lo_buildSlice rfl rfl (by decide) (by decide) rfl rfl) (fun b35 hb35 => ?_)
      refine g_mark 35 rfl rfl rfl rfl rfl rfl ?_
      refine g_pu rfl rfl rfl (pu_move rfl rfl) ?_
      refine g_call [] rfl rfl rfl rfl rfl rfl (fun w' hm => RTag_b w' _ c (key := nodeK) (By.full 35 rfl hm rfl (by omega)) (ha.m hm) (by omega) (by omega)) (fun _ _ => ?_)
      refine g_lo [9] rfl rfl rfl rfl (lo_alloc rfl) (fun b9 hb9 => ?_)
      refine g_storeL 9 (s := 32) (C := bs (hmacL nodeK seed)) rfl rfl rfl rfl rfl rfl (by rw [bs_length, hhl]) rfl (oneCell_bs _) ?_
      refine g_nil ?_
      (repeat refine g_seq ?_)
      refine g_region ?_
      refine g_pu rfl rfl rfl (pu_assign rfl rfl) ?_
      refine g_nil ?_
      (repeat refine g_seq ?_)
      refine g_block (g_loop (σ := Nat) (fun j => [(1, .slice q i d), (6, x.sl i), (9, .pointer (some ⟨b9, 0, none⟩)), (10, .int .i64 (j : Int))]) (fun j => [(9, .pt b9 (.cells (bs (hmacL nodeK seed)).toArray 43 (0, 0))), (90, x.ck 45 66 (nodsC (mixN seed ss j)))]) (fun j => j ≤ i) (fun j => i - j) 0 ⟨rfl, rfl, rfl, rfl, trivial⟩ ⟨rfl, by rw [mixN_zero]; rfl, trivial⟩ (by omega) ?_)
      intro j hj
      by_cases hlt2 : j < i
      · (repeat refine g_seq ?_)
        refine g_region ?_
        refine g_pu rfl rfl rfl (pu_move rfl rfl) ?_
        refine g_pu rfl rfl rfl (pu_move rfl rfl) ?_
        first | refine g_pu rfl rfl rfl (pu_len rfl rfl) ?_ | refine g_pu rfl rfl rfl (pu_lenS rfl rfl) ?_
        refine g_pu rfl rfl rfl (pu_lss_t rfl rfl rfl (by omega)) ?_
        refine g_nil ?_
        (repeat refine g_seq ?_)
        refine g_cond_t rfl (g_skip ?_)
        have h1 : ss[j]? = some ss[j] := List.getElem?_eq_getElem (by omega)
        generalize ss[j] = s at h1
        have h2 : (ss.map Value.string)[j]? = some (.string s) := by rw [List.getElem?_map, h1]; rfl
        have hs16 : s.size ≤ 16 := okN_size (hok _ (List.mem_of_getElem? (initN_get h1)))
        have hbo := bytesOf_length s
        have hmo := mixN_ok seed ss j
        have hmg := mixN_get (seed := seed) h1
        have hml2 := mixN_length (seed := seed) (show j ≤ ss.length by omega)
        have hcl := nodsC_length hmo
        have hpvl := pvN_length seed s
        have hpvb : (bs (pvN seed s)).length = 32 := by rw [bs_length, hpvl]
        have hxvl := xmV_length (pvN seed s) nine
        have hxvb : (bs (xmV (pvN seed s) nine)).length = 32 := by rw [bs_length, hxvl]
        have hP1 := fun J => nodsC_put (y := nhN seed s j) hmo hmg (node_putv (n0_ok s j) (pvN seed s)) (by omega) J
        have hok2 : ∀ y ∈ (mixN seed ss j).set j (nhN seed s j), y.ok := fun y hy => by
          rcases List.mem_or_eq_of_mem_set hy with h | h
          · exact hmo y h
          · rw [h]; exact nhN_ok _ _ _
        have hg2 : ((mixN seed ss j).set j (nhN seed s j))[j]? = some (nhN seed s j) := by rw [List.getElem?_set_self (by omega)]
        have hP2 := fun J => nodsC_put (y := n1 seed s j) hok2 hg2 (node_putb (nhN_ok seed s j) (xmV (pvN seed s) nine)) (by omega) J
        have hP3 : ((mixN seed ss j).set j (nhN seed s j)).set j (n1 seed s j) = mixN seed ss (j + 1) := by
          rw [List.set_set, ← mixN_set h1]
        rw [hP3] at hP2
        have hcl2 := nodsC_length hok2
        rw [List.length_set] at hcl2
        have hcl3 := nodsC_length (mixN_ok seed ss (j + 1))
        have hml3 := mixN_length (seed := seed) (show j + 1 ≤ ss.length by omega)
        (repeat refine g_seq ?_); refine g_block ?_
        obtain ⟨xp, xc⟩ := x
        (repeat refine g_seq ?_)
        refine g_any (12, []) ?_
        refine a_pu 0 rfl rfl rfl rfl (pu_sliceA rfl rfl) rfl rfl (by kernel_rfl) ?_
        refine a_pu 1 rfl rfl rfl rfl (pu_move rfl rfl) rfl rfl (by kernel_rfl) ?_
        refine a_pu 2 rfl rfl rfl rfl (pu_move rfl rfl) rfl rfl (by kernel_rfl) ?_
        refine a_pu 3 rfl rfl rfl rfl (pu_atM1 j (fun w' hm => hq.mem0 hm) rfl rfl rfl rfl hlt2 (by omega)) rfl rfl (by kernel_rfl) ?_
        refine a_pu 4 rfl rfl rfl rfl (pu_rdM (fun w' hm => hq.mem0 hm) rfl rfl h2) rfl rfl (by kernel_rfl) ?_
        refine a_do 5 51 [51] (does_lo rfl rfl rfl (lo_bytesOf (str := s) rfl rfl (by omega))) rfl rfl (by kernel_rfl) rfl rfl (by kernel_rfl) (by kernel_rfl) (by kernel_rfl) rfl (fun p hp => by cases hp) ?_; rintro v_ cs_ ⟨x51, hx51, rfl, rfl⟩
        refine a_do 6 52 [52] (does_call rfl rfl rfl rfl rfl (fun w' hm => RExpand_b w' _ _ 32 (key := hmacL nodeK seed) (W := bytesOf s) (By.full 9 rfl hm hhl (by omega)) ⟨hm.row 51 rfl, hbo, by omega⟩ (by omega) (by omega) (by omega))) rfl rfl (by kernel_rfl) rfl rfl (by kernel_rfl) (by kernel_rfl) (by kernel_rfl) rfl (fun p hp => by cases hp) ?_; rintro v_ cs_ ⟨x52, _, rfl, rfl⟩
        rw [show expL (hmacL nodeK seed) (bytesOf s) 32 = pvN seed s from rfl]
        refine a_pu 7 rfl rfl rfl rfl (pu_move rfl rfl) rfl rfl (by kernel_rfl) ?_
        refine a_pu 8 rfl rfl rfl rfl (pu_extract rfl rfl rfl) rfl rfl (by kernel_rfl) ?_
        refine a_pu 9 rfl rfl rfl rfl (pu_extract rfl rfl rfl) rfl rfl (by kernel_rfl) ?_
        refine a_pu 10 rfl rfl rfl rfl (pu_assign rfl rfl) rfl rfl (by kernel_rfl) ?_
        refine a_pu 11 rfl rfl rfl rfl (pu_assign rfl rfl) rfl rfl (by kernel_rfl) ?_
        refine a_done (by kernel_rfl) ?_
        (repeat refine g_seq ?_)
        refine g_row 90 rfl (by omega) (fun bb J hp hJ hcap => ?_)
        simp only at hp
        subst hp
        (repeat refine g_seq ?_)
        refine g_region ?_
        refine g_pu rfl rfl rfl (pu_move rfl rfl) ?_
        refine g_pu rfl rfl rfl (pu_move rfl rfl) ?_
        refine g_pu rfl rfl rfl (pu_at j (s := 66) rfl rfl rfl rfl hlt2) ?_
        refine g_pu rfl rfl rfl (pu_fieldAddr (by decide) rfl rfl) ?_
        refine g_pu rfl rfl rfl (pu_sliceA rfl rfl) ?_
        refine g_pu rfl rfl rfl (pu_move rfl rfl) ?_
        refine g_copyF 90 (L := nodsC (mixN seed ss j) ++ J) (n := 32) (m := 32) (bs (pvN seed s)) rfl rfl rfl rfl rfl rfl rfl (fun w' hm => Ow.rd (t := 52) rfl hm) hpvb (by rw [List.length_append]; omega) (oneCell_bs _) ?_
        rw [show 0 + j * 66 + 2 = j * 66 + 2 by omega, show Nat.min 32 32 = 32 from rfl, List.take_of_length_le (show (bs (pvN seed s)).length ≤ 32 by omega), hP1 J]
        refine g_nil ?_
        (repeat refine g_seq ?_)
        refine g_region ?_
        refine g_pu rfl rfl rfl (pu_move rfl rfl) ?_
        refine g_pu rfl rfl rfl (pu_move rfl rfl) ?_
        refine g_pu rfl rfl rfl (pu_move rfl rfl) ?_
        refine g_call [] rfl rfl rfl rfl rfl rfl (fun w' hm => RPublic_b w' x52.c (k := pvN seed s) (By.ow 52 rfl hm hpvl (by omega))) (fun _ _ => ?_)
        refine g_pu rfl rfl rfl (pu_move rfl rfl) ?_
        refine g_pu rfl rfl rfl (pu_extract rfl rfl rfl) ?_
        refine g_pu rfl rfl rfl (pu_extract rfl rfl rfl) ?_
        refine g_pu rfl rfl rfl (pu_at j (s := 66) rfl rfl rfl rfl hlt2) ?_
        refine g_pu rfl rfl rfl (pu_fieldAddr (by decide) rfl rfl) ?_
        refine g_storeA 90 (s := 32) (off := 0 + j * 66 + 34) (C := bs (xmV (pvN seed s) nine)) (L := nodsC ((mixN seed ss j).set j (nhN seed s j)) ++ J) rfl rfl rfl rfl rfl rfl hxvb (oneCell_bs _) (by rw [List.length_append]; omega) ?_
        rw [show 0 + j * 66 + 34 = j * 66 + 34 by omega, hP2 J]
        refine g_nil ?_
        refine g_own 90 (L := nodsC (mixN seed ss (j + 1))) (J := J) (c := xc) (s := 66) rfl (by simp only [List.length_append] at hJ ⊢; omega) hcap ?_
        refine g_blk ?_
        (repeat refine g_seq ?_)
        refine g_region ?_
        refine g_pu rfl rfl rfl (pu_move rfl rfl) ?_
        refine g_pu rfl rfl rfl (pu_addI rfl rfl rfl (by omega)) ?_
        refine g_pu rfl rfl rfl (pu_assign rfl rfl) ?_
        refine g_nil ?_
        exact g_round (j + 1) (by omega) (by omega) ⟨rfl, rfl, rfl, rfl, trivial⟩ ⟨rfl, rfl, trivial⟩
      · (repeat refine g_seq ?_)
        refine g_region ?_
        refine g_pu rfl rfl rfl (pu_move rfl rfl) ?_
        refine g_pu rfl rfl rfl (pu_move rfl rfl) ?_
        first | refine g_pu rfl rfl rfl (pu_len rfl rfl) ?_ | refine g_pu rfl rfl rfl (pu_lenS rfl rfl) ?_
        refine g_pu rfl rfl rfl (pu_lss_f rfl rfl rfl (by omega)) ?_
        refine g_nil ?_
        (repeat refine g_seq ?_)
        refine g_cond_f rfl (g_exit rfl ?_)
        have e2 : j = ss.length := by omega
        subst e2
        rw [mixN_all]
        (repeat refine g_seq ?_)
        refine g_region ?_
        refine g_pu rfl rfl rfl (pu_move rfl rfl) ?_
        refine g_pu rfl rfl rfl (pu_assign rfl rfl) ?_
        refine g_pu rfl rfl rfl (pu_assign rfl rfl) ?_
        refine g_nil ?_
        exact g_ret2 rfl rfl rfl (fun w' hm => ⟨x, trivial, by rw [← hm'], hm.grows [90] ⟨rfl, trivial⟩ rfl⟩)
    · have hM : makeN seed ss = ([], chkN (initN ss)) := if_neg h0
      rw [hM]
      dsimp only
      (repeat refine g_seq ?_)
      refine g_region ?_
      refine g_pu rfl rfl rfl (pu_move rfl rfl) ?_
      refine g_pu rfl rfl rfl (pu_neq_t rfl rfl rfl h0) ?_
      refine g_nil ?_
      (repeat refine g_seq ?_)
      refine g_cond_t rfl ?_
      (repeat refine g_seq ?_)
      refine g_region ?_
      refine g_pu rfl rfl rfl (pu_move rfl rfl) ?_
      refine g_pu rfl rfl rfl (pu_assign rfl rfl) ?_
      refine g_pu rfl rfl rfl (pu_assign rfl rfl) ?_
      refine g_nil ?_
      refine g_nilOwn 91 45 66 rfl ?_
      exact g_ret2 rfl rfl rfl (fun w' hm => ⟨⟨none, 0⟩, trivial, rfl, hm.grows [91] ⟨rfl, trivial⟩ rfl⟩)
end Go.Sx

import Derived.Test.YtfbcmndhjoebbaaZdD5
import Derived.Test.YtfbcmndhjoebbaaZdXC
set_option linter.unusedVariables false
set_option linter.unusedSimpArgs false
/-
  Nodes that are found: of the program and of the document; a node's keys. A directory fits memory.
-/
namespace Go.Sx
open Go Go.Proofs

section
variable {P : Program} {fn : Func} {R : Ending → World → Prop} {N : Nat} {w0 : World} {D : Blocks} {e : List (Nat × Value)} {M : List (Nat × Ck)} {k : List It} {o : Oper} {all : Array Oper} {rest : List Oper}
/-- A function with a captured variable, as a value. -/
def fvC (f : FuncId) (c : Value) : Value := .func (.func f) #[] #[c]
theorem pu_makeFuncC {f : FuncId} {x : Operand} {c : Value} (ho : o.op = .makeFunc (.func f) #[] #[x]) (hx : ev e x = some c) : Pu P N w0 D e M o (fvC f c) := fun ac w hs hm => by
  simp [execOp, ho, hs.eval hx, Instr.makeFunc, fvC]
theorem run_callC {a : Act} {w : World} {f : FuncId} {c : Value} {x : Operand} {xs : List Operand} {ts : Array TypeId} {vs : List Value} (hf : Callable P f) (ho : o.op = .call ⟨.value x, xs.toArray, ts⟩) (hs : Sat N e a) (hv : ev e x = some (fvC f c)) (hx : evs e xs = some vs) :
    (execOp a.eval o).run P w = .ok (.enter f (vs ++ [c]).toArray) w := by
  obtain ⟨g, h1, h2, h3⟩ := hf
  have h4 := hs.evals hx
  have h5 : xs.toArray.map a.eval = vs.toArray := by rw [List.map_toArray, h4]
  have h6 := hs.eval hv
  unfold fvC at h6
  simp only [execOp, ho, resolve, h5, h6, Deferred.ofValue, Sem.run_bind, Sem.run_pure, Result.andThen_ok, invoke, callFunc, run_program, h1, h2, h3, Bool.false_eq_true, if_false]
  simp
theorem g_callC {σ : Type} {pr : σ → Prop} {val : σ → Value} {new : σ → List Ck} {d : Option Nat} {f : FuncId} {c : Value} {x : Operand} {xs : List Operand} {tys : Array TypeId} {vs : List Value} (ts : List Nat) (hg : wantE all e o = some true) (hd : o.dst = d) (hN : inN d N = true) (hf : fresh M ts = true)
    (hc : Callable P f) (ho : o.op = .call ⟨.value x, xs.toArray, tys⟩) (hv : ev e x = some (fvC f c)) (hx : evs e xs = some vs) (hS : ∀ w, Mem w0 D M w → Spec P f (vs ++ [c]).toArray w pr val Nob new)
    (h : ∀ x, pr x → G P fn R N w0 D (putD d (val x) e) (tags ts (new x) ++ M) (.ops all rest :: k)) : G P fn R N w0 D e M (.ops all (o :: rest) :: k) :=
  fun a w hs hm => by
    simp only [ext]
    refine wpList_want (wantE_spec hs hg) fun K hK => ?_
    unfold Oper.wp
    rw [run_callC hc ho hs hv hx]
    simp only [Oper.upon]
    refine (hS w hm).mono ?_
    rintro en w' ⟨x, hp, rfl, hgr⟩
    refine hK _ _ ?_
    rw [hd]
    have := h x hp _ w' (hs.putD hN (val x)) (hm.grow hgr ts hf)
    simpa only [ext] using this
end

theorem find_at {hs : List Hop} {pr : Hop → Bool} {i : Nat} {x : Hop} (h : (hs.take i).find? pr = none) (hx : hs[i]? = some x) (hp : pr x = true) : hs.find? pr = some x := by
  have hi := (List.getElem?_eq_some_iff.1 hx).1
  have e : hs = hs.take i ++ x :: hs.drop (i + 1) := by
    have h2 := List.drop_eq_getElem_cons hi
    have h3 := (List.getElem?_eq_some_iff.1 hx).2
    rw [h3] at h2
    rw [← h2, List.take_append_drop]
  rw [e, List.find?_append, h, List.find?_cons, hp]
  rfl
theorem find_next {hs : List Hop} {pr : Hop → Bool} {i : Nat} {x : Hop} (h : (hs.take i).find? pr = none) (hx : hs[i]? = some x) (hp : pr x = false) : (hs.take (i + 1)).find? pr = none := by
  rw [List.take_add_one, hx, List.find?_append, h]
  simp [hp]
def zN : Hop := ⟨⟨#[]⟩, 0#64, zero32, zero32, 0, 0⟩
theorem zN_ok : zN.ok := ⟨List.length_replicate, List.length_replicate⟩
noncomputable def findR (hs : List Hop) (pr : Hop → Bool) : Hop × Int := if chkN hs = 0 then ((hs.find? pr).getD zN, if (hs.find? pr).isSome then 0 else 4) else (zN, chkN hs)
theorem findR_bad {hs : List Hop} {pr : Hop → Bool} (h : ¬ chkN hs = 0) : findR hs pr = (zN, chkN hs) := if_neg h
theorem findR_none {hs : List Hop} {pr : Hop → Bool} (h : chkN hs = 0) (h2 : hs.find? pr = none) : findR hs pr = (zN, 4) := by
  unfold findR
  rw [if_pos h, h2]
  rfl
theorem findR_some {hs : List Hop} {pr : Hop → Bool} {x : Hop} (h : chkN hs = 0) (h2 : hs.find? pr = some x) : findR hs pr = (x, 0) := by
  unfold findR
  rw [if_pos h, h2]
  rfl
theorem findR_ok {hs : List Hop} {pr : Hop → Bool} (ho : ∀ x ∈ hs, x.ok) : (findR hs pr).1.ok := by
  by_cases h : chkN hs = 0
  · cases h2 : hs.find? pr with
    | none => rw [findR_none h h2]; exact zN_ok
    | some x => rw [findR_some h h2]; exact ho x (List.mem_of_find?_eq_some h2)
  · rw [findR_bad h]; exact zN_ok
def isName (s : ByteArray) (x : Hop) : Bool := decide (x.name = s)
def isId (z : BitVec 64) (x : Hop) : Bool := decide (x.id = z)
theorem fill_nod {h : Hop} (ho : h.ok) (A : Array Value) (hA : A.size = 66) : Instr.fill (fun i => [(0, 66)][i]?) A [(0, .agg (nodeC h).toArray)] = some (nodeC h).toArray := fill_node ho A hA

theorem FindF_b (w : World) (bc : Nat) {s : ByteArray} (hr : RdV w (some ⟨bc, 0, none⟩) [.string s]) (x : Hop) : Spec Try.prog 42 #[.agg (nodeC x).toArray, .pointer (some ⟨bc, 0, none⟩)] w (σ := Unit) (fun _ => True) (fun _ => .bool (isName s x)) Nob (fun _ => []) := by
  refine enter Try.func42 rfl rfl (Mem.start w) ?_
  have h0 : (nodeC x).toArray[0 + 0]? = some (.string x.name) := node_0 x
  (repeat refine g_seq ?_)
  refine g_region ?_
  refine g_lo [2] rfl rfl rfl rfl (lo_box rfl rfl) (fun b2 hb2 => ?_)
  refine g_pu rfl rfl rfl (pu_assign rfl rfl) ?_
  refine g_nil ?_
  (repeat refine g_seq ?_)
  refine g_region ?_
  refine g_pu rfl rfl rfl (pu_fieldAddr (by decide) rfl rfl) ?_
  refine g_pu rfl rfl rfl (pu_load 2 (v := .string x.name) rfl rfl rfl h0) ?_
  refine g_pu rfl rfl rfl (pu_rdM (p := some ⟨bc, 0, none⟩) (L := [.string s]) (j := 0) (fun w' hm => hr.mem0 hm) rfl rfl rfl) ?_
  refine g_pu rfl rfl rfl (pu_eqlS rfl rfl rfl) ?_
  refine g_pu rfl rfl rfl (pu_assign rfl rfl) ?_
  refine g_nil ?_
  exact g_ret1 rfl rfl (fun w' hm => ⟨(), trivial, rfl, hm.grows [] trivial rfl⟩)
theorem AtF_b (w : World) (bc : Nat) {z : BitVec 64} (hr : RdV w (some ⟨bc, 0, none⟩) [b64 z]) (x : Hop) : Spec Try.prog 41 #[.agg (nodeC x).toArray, .pointer (some ⟨bc, 0, none⟩)] w (σ := Unit) (fun _ => True) (fun _ => .bool (isId z x)) Nob (fun _ => []) := by
  refine enter Try.func41 rfl rfl (Mem.start w) ?_
  have h0 : (nodeC x).toArray[0 + 1]? = some (b64 x.id) := node_1 x
  (repeat refine g_seq ?_)
  refine g_region ?_
  refine g_lo [2] rfl rfl rfl rfl (lo_box rfl rfl) (fun b2 hb2 => ?_)
  refine g_pu rfl rfl rfl (pu_assign rfl rfl) ?_
  refine g_nil ?_
  (repeat refine g_seq ?_)
  refine g_region ?_
  refine g_pu rfl rfl rfl (pu_fieldAddr (by decide) rfl rfl) ?_
  refine g_pu rfl rfl rfl (pu_load 2 (v := b64 x.id) rfl rfl rfl h0) ?_
  refine g_pu rfl rfl rfl (pu_rdM (p := some ⟨bc, 0, none⟩) (L := [b64 z]) (j := 0) (fun w' hm => hr.mem0 hm) rfl rfl rfl) ?_
  refine g_pu rfl rfl rfl (pu_eql64 rfl rfl rfl) ?_
  refine g_pu rfl rfl rfl (pu_assign rfl rfl) ?_
  refine g_nil ?_
  exact g_ret1 rfl rfl (fun w' hm => ⟨(), trivial, rfl, hm.grows [] trivial rfl⟩)

theorem NIndex_b (w : World) {p pc : Option Addr} {n : Nat} (c : Nat) {hs : List Hop} {Lc : List Value} {f : FuncId} {pr : Hop → Bool} (hcal : Callable Try.prog f) (hc : RdV w pc Lc)
    (hf : ∀ (w' : World), RdV w' pc Lc → ∀ x : Hop, Spec Try.prog f #[.agg (nodeC x).toArray, .pointer pc] w' (σ := Unit) (fun _ => True) (fun _ => .bool (pr x)) Nob (fun _ => []))
    (hp : RdV w p (nodsC hs)) (hn : hs.length = n) (ho : ∀ x ∈ hs, x.ok) (hnb : n ≤ 9223372036854775807) : Spec Try.prog 55 #[.slice p n c, fvC f (.pointer pc)] w (σ := Int) (fun z => (z < 0 ∧ hs.find? pr = none) ∨ ∃ (i : Nat) (x : Hop), z = (i : Int) ∧ hs[i]? = some x ∧ hs.find? pr = some x) (fun z => .int .i64 z) Nob (fun _ => []) := by
  refine enter Try.func55 rfl rfl (Mem.start w) ?_
  have hcl := nodsC_length ho
  (repeat refine g_seq ?_)
  refine g_region ?_
  refine g_pu rfl rfl rfl (pu_assign rfl rfl) ?_
  refine g_nil ?_
  (repeat refine g_seq ?_)
  refine g_region ?_
  refine g_pu rfl rfl rfl (pu_move rfl rfl) ?_
  first | refine g_pu rfl rfl rfl (pu_len rfl rfl) ?_ | refine g_pu rfl rfl rfl (pu_lenS rfl rfl) ?_
  refine g_pu rfl rfl rfl (pu_move rfl rfl) ?_
  refine g_nil ?_
  (repeat refine g_seq ?_)
  refine g_block (g_loop (σ := Nat) (fun i => [(0, .slice p n c), (1, fvC f (.pointer pc)), (7, .int .i64 (n : Int)), (8, .int .i64 (i : Int))]) (fun _ => []) (fun i => i ≤ n ∧ (hs.take i).find? pr = none) (fun i => n - i) 0 ⟨rfl, rfl, rfl, rfl, trivial⟩ trivial ⟨by omega, rfl⟩ ?_)
  intro i ⟨hi, hno⟩
  by_cases hlt : i < n
  · (repeat refine g_seq ?_)
    refine g_region ?_
    first | refine g_pu rfl rfl rfl (pu_lss_t rfl rfl rfl (by omega)) ?_ | refine g_pu rfl rfl rfl (pu_lss_f rfl rfl rfl (by omega)) ?_ | refine g_pu rfl rfl rfl (pu_lss rfl rfl rfl) ?_
    refine g_nil ?_
    (repeat refine g_seq ?_)
    refine g_cond_t rfl (g_skip ?_)
    have h1 : hs[i]? = some hs[i] := List.getElem?_eq_getElem (by omega)
    generalize hs[i] = x at h1
    have hg := nodsC_get ho h1
    (repeat refine g_seq ?_); refine g_block ?_
    (repeat refine g_seq ?_)
    refine g_region ?_
    refine g_pu rfl rfl rfl (pu_move rfl rfl) ?_
    refine g_pu rfl rfl rfl (pu_assign rfl rfl) ?_
    refine g_nil ?_
    cases hpx : pr x with
    | true =>
      (repeat refine g_seq ?_)
      refine g_region ?_
      refine g_pu rfl rfl rfl (pu_move rfl rfl) ?_
      refine g_pu rfl rfl rfl (pu_move rfl rfl) ?_
      refine g_pu rfl rfl rfl (pu_move rfl rfl) ?_
      refine g_pu rfl rfl rfl (pu_atM i (s := 66) (L := nodsC hs) (fun w' hm => hp.mem0 hm) rfl rfl rfl rfl hlt (by omega)) ?_
      refine g_pu rfl rfl rfl (pu_rdMA (L := nodsC hs) (j := i * 66) (s := 66) (fun w' hm => hp.mem0 hm) rfl rfl (by omega) (by omega)) ?_
      rw [hg]
      refine g_callC [] rfl rfl rfl rfl hcal rfl rfl rfl (fun w' hm => hf w' (hc.mem0 hm) x) (fun _ _ => ?_)
      rw [hpx]
      refine g_nil ?_
      (repeat refine g_seq ?_)
      refine g_cond_t rfl ?_
      (repeat refine g_seq ?_)
      refine g_region ?_
      refine g_pu rfl rfl rfl (pu_move rfl rfl) ?_
      refine g_pu rfl rfl rfl (pu_assign rfl rfl) ?_
      refine g_nil ?_
      exact g_ret1 rfl rfl (fun w' hm => ⟨(i : Int), .inr ⟨i, x, rfl, h1, find_at hno h1 hpx⟩, rfl, hm.grows [] trivial rfl⟩)
    | false =>
      (repeat refine g_seq ?_)
      refine g_region ?_
      refine g_pu rfl rfl rfl (pu_move rfl rfl) ?_
      refine g_pu rfl rfl rfl (pu_move rfl rfl) ?_
      refine g_pu rfl rfl rfl (pu_move rfl rfl) ?_
      refine g_pu rfl rfl rfl (pu_atM i (s := 66) (L := nodsC hs) (fun w' hm => hp.mem0 hm) rfl rfl rfl rfl hlt (by omega)) ?_
      refine g_pu rfl rfl rfl (pu_rdMA (L := nodsC hs) (j := i * 66) (s := 66) (fun w' hm => hp.mem0 hm) rfl rfl (by omega) (by omega)) ?_
      rw [hg]
      refine g_callC [] rfl rfl rfl rfl hcal rfl rfl rfl (fun w' hm => hf w' (hc.mem0 hm) x) (fun _ _ => ?_)
      rw [hpx]
      refine g_nil ?_
      (repeat refine g_seq ?_)
      refine g_cond_f rfl (g_skip ?_)
      refine g_blk ?_
      (repeat refine g_seq ?_)
      refine g_region ?_
      refine g_pu rfl rfl rfl (pu_addI rfl rfl rfl (by omega)) ?_
      refine g_pu rfl rfl rfl (pu_move rfl rfl) ?_
      refine g_nil ?_
      exact g_round (i + 1) ⟨by omega, find_next hno h1 hpx⟩ (by omega) ⟨rfl, rfl, rfl, rfl, trivial⟩ trivial
  · (repeat refine g_seq ?_)
    refine g_region ?_
    first | refine g_pu rfl rfl rfl (pu_lss_t rfl rfl rfl (by omega)) ?_ | refine g_pu rfl rfl rfl (pu_lss_f rfl rfl rfl (by omega)) ?_ | refine g_pu rfl rfl rfl (pu_lss rfl rfl rfl) ?_
    refine g_nil ?_
    (repeat refine g_seq ?_)
    refine g_cond_f rfl (g_exit rfl ?_)
    rw [List.take_of_length_le (by omega)] at hno
    (repeat refine g_seq ?_)
    refine g_region ?_
    refine g_pu rfl rfl rfl (pu_assign rfl rfl) ?_
    refine g_nil ?_
    exact g_ret1 rfl rfl (fun w' hm => ⟨-1, .inl ⟨by omega, hno⟩, rfl, hm.grows [] trivial rfl⟩)

theorem first_b (w : World) {p pc : Option Addr} {n : Nat} (c : Nat) {hs : List Hop} {Lc : List Value} {f : FuncId} {pr : Hop → Bool} (hcal : Callable Try.prog f) (hc : RdV w pc Lc)
    (hf : ∀ (w' : World), RdV w' pc Lc → ∀ x : Hop, Spec Try.prog f #[.agg (nodeC x).toArray, .pointer pc] w' (σ := Unit) (fun _ => True) (fun _ => .bool (pr x)) Nob (fun _ => []))
    (hp : RdV w p (nodsC hs)) (hn : hs.length = n) (ho : ∀ x ∈ hs, x.ok) : Spec Try.prog 40 #[.slice p n c, fvC f (.pointer pc)] w (σ := Unit) (fun _ => True) (fun _ => .tuple #[.agg (nodeC (findR hs pr).1).toArray, .int .i64 (findR hs pr).2]) Nob (fun _ => []) := by
  refine enter Try.func40 rfl rfl (Mem.start w) ?_
  have hcl := nodsC_length ho
  have hzl := nodeC_length zN_ok
  (repeat refine g_seq ?_)
  refine g_region ?_
  refine g_lo [4] rfl rfl rfl rfl (lo_alloc rfl) (fun b4 hb4 => ?_)
  refine g_pu rfl rfl rfl (pu_assign rfl rfl) ?_
  refine g_nil ?_
  (repeat refine g_seq ?_)
  refine g_region ?_
  refine g_pu rfl rfl rfl (pu_move rfl rfl) ?_
  refine g_call [] rfl rfl rfl rfl rfl rfl (fun w' hm => DCheck_b w' c (hp.mem0 hm) hn ho) (fun _ _ => ?_)
  refine g_pu rfl rfl rfl (pu_assign rfl rfl) ?_
  refine g_nil ?_
  by_cases h0 : chkN hs = 0
  · have h64 := (chkN_ok h0).1
    (repeat refine g_seq ?_)
    refine g_region ?_
    refine g_pu rfl rfl rfl (pu_move rfl rfl) ?_
    refine g_pu rfl rfl rfl (pu_neq_f rfl rfl rfl (by omega)) ?_
    refine g_nil ?_
    (repeat refine g_seq ?_)
    refine g_cond_f rfl (g_skip ?_)
    (repeat refine g_seq ?_)
    refine g_region ?_
    refine g_pu rfl rfl rfl (pu_move rfl rfl) ?_
    refine g_pu rfl rfl rfl (pu_move rfl rfl) ?_
    refine g_call [] rfl rfl rfl rfl rfl rfl (fun w' hm => NIndex_b w' c hcal (hc.mem0 hm) hf (hp.mem0 hm) hn ho (by omega)) (fun z hz => ?_)
    refine g_pu rfl rfl rfl (pu_assign rfl rfl) ?_
    refine g_nil ?_
    rcases hz with ⟨hz0, hfn⟩ | ⟨i, x, rfl, h1, hfx⟩
    · rw [findR_none h0 hfn]
      (repeat refine g_seq ?_)
      refine g_region ?_
      refine g_pu rfl rfl rfl (pu_move rfl rfl) ?_
      refine g_pu rfl rfl rfl (pu_lss_t rfl rfl rfl hz0) ?_
      refine g_nil ?_
      (repeat refine g_seq ?_)
      refine g_cond_t rfl ?_
      (repeat refine g_seq ?_)
      refine g_region ?_
      refine g_pu rfl rfl rfl (pu_buildS (cs := nodeC zN) rfl rfl rfl) ?_
      refine g_storeL 4 (s := 66) (C := nodeC zN) rfl rfl rfl rfl rfl rfl hzl rfl (oneCell_node _) ?_
      refine g_pu rfl rfl rfl (pu_assign rfl rfl) ?_
      refine g_nil ?_
      exact g_retLT 4 (L := nodeC zN) rfl hzl rfl rfl rfl (fun w' hm => ⟨(), trivial, rfl, hm.grows [] trivial rfl⟩)
    · have hxo := ho x (List.mem_of_getElem? h1)
      have hnl := nodeC_length hxo
      have hg := nodsC_get ho h1
      have hi := (List.getElem?_eq_some_iff.1 h1).1
      rw [findR_some h0 hfx]
      (repeat refine g_seq ?_)
      refine g_region ?_
      refine g_pu rfl rfl rfl (pu_move rfl rfl) ?_
      refine g_pu rfl rfl rfl (pu_lss_f rfl rfl rfl (by omega)) ?_
      refine g_nil ?_
      (repeat refine g_seq ?_)
      refine g_cond_f rfl (g_skip ?_)
      (repeat refine g_seq ?_)
      refine g_region ?_
      refine g_pu rfl rfl rfl (pu_move rfl rfl) ?_
      refine g_pu rfl rfl rfl (pu_move rfl rfl) ?_
      refine g_pu rfl rfl rfl (pu_atM i (s := 66) (L := nodsC hs) (fun w' hm => hp.mem0 hm) rfl rfl rfl rfl (by omega) (by omega)) ?_
      refine g_pu rfl rfl rfl (pu_rdMA (L := nodsC hs) (j := i * 66) (s := 66) (fun w' hm => hp.mem0 hm) rfl rfl (by omega) (by omega)) ?_
      rw [hg]
      refine g_pu rfl rfl rfl (pu_buildS (cs := nodeC x) rfl rfl (fill_nod hxo _ rfl)) ?_
      refine g_storeL 4 (s := 66) (C := nodeC x) rfl rfl rfl rfl rfl rfl hnl rfl (oneCell_node _) ?_
      refine g_pu rfl rfl rfl (pu_assign rfl rfl) ?_
      refine g_nil ?_
      exact g_retLT 4 (L := nodeC x) rfl hnl rfl rfl rfl (fun w' hm => ⟨(), trivial, rfl, hm.grows [] trivial rfl⟩)
  · rw [findR_bad h0]
    (repeat refine g_seq ?_)
    refine g_region ?_
    refine g_pu rfl rfl rfl (pu_move rfl rfl) ?_
    refine g_pu rfl rfl rfl (pu_neq_t rfl rfl rfl h0) ?_
    refine g_nil ?_
    (repeat refine g_seq ?_)
    refine g_cond_t rfl ?_
    (repeat refine g_seq ?_)
    refine g_region ?_
    refine g_pu rfl rfl rfl (pu_buildS (cs := nodeC zN) rfl rfl rfl) ?_
    refine g_pu rfl rfl rfl (pu_move rfl rfl) ?_
    refine g_storeL 4 (s := 66) (C := nodeC zN) rfl rfl rfl rfl rfl rfl hzl rfl (oneCell_node _) ?_
    refine g_pu rfl rfl rfl (pu_assign rfl rfl) ?_
    refine g_nil ?_
    exact g_retLT 4 (L := nodeC zN) rfl hzl rfl rfl rfl (fun w' hm => ⟨(), trivial, rfl, hm.grows [] trivial rfl⟩)

theorem DFind_b (w : World) {p : Option Addr} {n : Nat} (c : Nat) (s : ByteArray) {hs : List Hop} (hp : RdV w p (nodsC hs)) (hn : hs.length = n) (ho : ∀ x ∈ hs, x.ok) : Spec Try.prog 20 #[.slice p n c, .string s] w (σ := Unit) (fun _ => True) (fun _ => .tuple #[.agg (nodeC (findR hs (isName s)).1).toArray, .int .i64 (findR hs (isName s)).2]) Nob (fun _ => []) := by
  refine enter Try.func20 rfl rfl (Mem.start w) ?_
  have hrl := nodeC_length (findR_ok (pr := isName s) ho)
  (repeat refine g_seq ?_)
  refine g_region ?_
  refine g_lo [3] rfl rfl rfl rfl (lo_box rfl rfl) (fun b3 hb3 => ?_)
  refine g_lo [4] rfl rfl rfl rfl (lo_alloc rfl) (fun b4 hb4 => ?_)
  refine g_pu rfl rfl rfl (pu_assign rfl rfl) ?_
  refine g_nil ?_
  (repeat refine g_seq ?_)
  refine g_region ?_
  refine g_pu rfl rfl rfl (pu_move rfl rfl) ?_
  refine g_pu rfl rfl rfl (pu_makeFuncC rfl rfl) ?_
  refine g_call [] rfl rfl rfl rfl rfl rfl (fun w' hm => first_b w' c (pr := isName s) Cal.h (hm.rowA 3 (L := [.string s]) rfl) (fun w2 h2 x => FindF_b w2 b3 h2 x) (hp.mem0 hm) hn ho) (fun _ _ => ?_)
  refine g_pu rfl rfl rfl (pu_extract rfl rfl rfl) ?_
  refine g_pu rfl rfl rfl (pu_extract rfl rfl rfl) ?_
  refine g_storeL 4 (s := 66) (C := nodeC (findR hs (isName s)).1) rfl rfl rfl rfl rfl rfl hrl rfl (oneCell_node _) ?_
  refine g_pu rfl rfl rfl (pu_assign rfl rfl) ?_
  refine g_nil ?_
  exact g_retLT 4 (L := nodeC (findR hs (isName s)).1) rfl hrl rfl rfl rfl (fun w' hm => ⟨(), trivial, rfl, hm.grows [] trivial rfl⟩)
theorem DAt_b (w : World) {p : Option Addr} {n : Nat} (c : Nat) (z : BitVec 64) {hs : List Hop} (hp : RdV w p (nodsC hs)) (hn : hs.length = n) (ho : ∀ x ∈ hs, x.ok) : Spec Try.prog 18 #[.slice p n c, b64 z] w (σ := Unit) (fun _ => True) (fun _ => .tuple #[.agg (nodeC (findR hs (isId z)).1).toArray, .int .i64 (findR hs (isId z)).2]) Nob (fun _ => []) := by
  refine enter Try.func18 rfl rfl (Mem.start w) ?_
  have hrl := nodeC_length (findR_ok (pr := isId z) ho)
  (repeat refine g_seq ?_)
  refine g_region ?_
  refine g_lo [3] rfl rfl rfl rfl (lo_box rfl rfl) (fun b3 hb3 => ?_)
  refine g_lo [4] rfl rfl rfl rfl (lo_alloc rfl) (fun b4 hb4 => ?_)
  refine g_pu rfl rfl rfl (pu_assign rfl rfl) ?_
  refine g_nil ?_
  (repeat refine g_seq ?_)
  refine g_region ?_
  refine g_pu rfl rfl rfl (pu_move rfl rfl) ?_
  refine g_pu rfl rfl rfl (pu_makeFuncC rfl rfl) ?_
  refine g_call [] rfl rfl rfl rfl rfl rfl (fun w' hm => first_b w' c (pr := isId z) Cal.h (hm.rowA 3 (L := [b64 z]) rfl) (fun w2 h2 x => AtF_b w2 b3 h2 x) (hp.mem0 hm) hn ho) (fun _ _ => ?_)
  refine g_pu rfl rfl rfl (pu_extract rfl rfl rfl) ?_
  refine g_pu rfl rfl rfl (pu_extract rfl rfl rfl) ?_
  refine g_storeL 4 (s := 66) (C := nodeC (findR hs (isId z)).1) rfl rfl rfl rfl rfl rfl hrl rfl (oneCell_node _) ?_
  refine g_pu rfl rfl rfl (pu_assign rfl rfl) ?_
  refine g_nil ?_
  exact g_retLT 4 (L := nodeC (findR hs (isId z)).1) rfl hrl rfl rfl rfl (fun w' hm => ⟨(), trivial, rfl, hm.grows [] trivial rfl⟩)

/-- By name, or by number where no name is told. -/
def isOne (s : ByteArray) (z : BitVec 64) (x : Hop) : Bool := if s = ⟨#[]⟩ then isId z x else isName s x
theorem isOne_e (z : BitVec 64) : isOne ⟨#[]⟩ z = isId z := by
  funext x
  unfold isOne
  rw [if_pos rfl]
theorem isOne_n {s : ByteArray} (z : BitVec 64) (h : ¬ s = ⟨#[]⟩) : isOne s z = isName s := by
  funext x
  unfold isOne
  rw [if_neg h]

theorem RDFind_b (w : World) {p : Option Addr} {n : Nat} (c : Nat) (s : ByteArray) (z : BitVec 64) {hs : List Hop} (hp : RdV w p (nodsC hs)) (hn : hs.length = n) (ho : ∀ x ∈ hs, x.ok) : Spec Try.prog 19 #[.slice p n c, .string s, b64 z] w (σ := Unit) (fun _ => True) (fun _ => .tuple #[.agg (nodeC (findR hs (isOne s z)).1).toArray, .int .i64 (findR hs (isOne s z)).2]) Nob (fun _ => []) := by
  refine enter Try.func19 rfl rfl (Mem.start w) ?_
  have hcl := nodsC_length ho
  have hzl := nodeC_length zN_ok
  (repeat refine g_seq ?_)
  refine g_region ?_
  refine g_lo [6] rfl rfl rfl rfl (lo_alloc rfl) (fun b6 hb6 => ?_)
  refine g_pu rfl rfl rfl (pu_assign rfl rfl) ?_
  refine g_nil ?_
  (repeat refine g_seq ?_)
  refine g_region ?_
  refine g_pu rfl rfl rfl (pu_move rfl rfl) ?_
  refine g_call [] rfl rfl rfl rfl rfl rfl (fun w' hm => RDCheck_b w' c (hp.mem0 hm) hn ho) (fun _ _ => ?_)
  refine g_pu rfl rfl rfl (pu_assign rfl rfl) ?_
  refine g_nil ?_
  by_cases h0 : chkN hs = 0
  · have h64 := (chkN_ok h0).1
    (repeat refine g_seq ?_)
    refine g_region ?_
    refine g_pu rfl rfl rfl (pu_move rfl rfl) ?_
    refine g_pu rfl rfl rfl (pu_neq_f rfl rfl rfl (by omega)) ?_
    refine g_nil ?_
    (repeat refine g_seq ?_)
    refine g_cond_f rfl (g_skip ?_)
    (repeat refine g_seq ?_)
    refine g_region ?_
    refine g_pu rfl rfl rfl (pu_assign rfl rfl) ?_
    refine g_nil ?_
    (repeat refine g_seq ?_)
    refine g_block (g_loop (σ := Nat) (fun i => [(0, .slice p n c), (1, .string s), (2, b64 z), (6, .pointer (some ⟨b6, 0, none⟩)), (9, .int .i64 (i : Int))]) (fun _ => [(6, .pt b6 (.cells (nodeC zN).toArray 45 (0, 0)))]) (fun i => i ≤ n ∧ (hs.take i).find? (isOne s z) = none) (fun i => n - i) 0 ⟨rfl, rfl, rfl, rfl, rfl, trivial⟩ ⟨rfl, trivial⟩ ⟨by omega, rfl⟩ ?_)
    intro i ⟨hi, hno⟩
    by_cases hlt : i < n
    · (repeat refine g_seq ?_)
      refine g_region ?_
      refine g_pu rfl rfl rfl (pu_move rfl rfl) ?_
      refine g_pu rfl rfl rfl (pu_move rfl rfl) ?_
      first | refine g_pu rfl rfl rfl (pu_len rfl rfl) ?_ | refine g_pu rfl rfl rfl (pu_lenS rfl rfl) ?_
      refine g_pu rfl rfl rfl (pu_lss_t rfl rfl rfl (by omega)) ?_
      refine g_nil ?_
      (repeat refine g_seq ?_)
      refine g_cond_t rfl (g_skip ?_)
      have h1 : hs[i]? = some hs[i] := List.getElem?_eq_getElem (by omega)
      generalize hs[i] = x at h1
      have hxo := ho x (List.mem_of_getElem? h1)
      have hnl := nodeC_length hxo
      have hg := nodsC_get ho h1
      have c0 := nodsC_cell ho h1 (node_0 x)
      have c1 := nodsC_cell ho h1 (node_1 x)
      (repeat refine g_seq ?_); refine g_block ?_
      (repeat refine g_seq ?_)
      refine g_join (σ := Unit) (fun _ => [(0, .slice p n c), (1, .string s), (2, b64 z), (6, .pointer (some ⟨b6, 0, none⟩)), (9, .int .i64 (i : Int)), (45, .bool (isOne s z x))]) (fun _ => [(6, .pt b6 (.cells (nodeC zN).toArray 45 (0, 0)))]) (fun _ => True) ?_ (fun _ _ => ?_)
      · by_cases hse : s = ⟨#[]⟩
        · rw [show isOne s z x = decide (x.id = z) by rw [hse, isOne_e]; rfl]
          (repeat refine g_seq ?_)
          refine g_region ?_
          refine g_pu rfl rfl rfl (pu_move rfl rfl) ?_
          refine g_pu rfl rfl rfl (pu_neqS rfl rfl rfl) ?_
          rw [decide_eq_false (show ¬ s ≠ ⟨#[]⟩ from fun h => h hse)]
          refine g_pu rfl rfl rfl (pu_move rfl rfl) ?_
          first | refine g_pass rfl rfl rfl ?_ | refine g_pu rfl rfl rfl (pu_move rfl rfl) ?_
          first | refine g_pass rfl rfl rfl ?_ | refine g_pu rfl rfl rfl (pu_move rfl rfl) ?_
          refine g_pass rfl rfl rfl ?_
          first | refine g_pass rfl rfl rfl ?_ | refine g_pu rfl rfl rfl (pu_fieldAddr (by decide) rfl rfl) ?_
          refine g_pass rfl rfl rfl ?_
          first | refine g_pass rfl rfl rfl ?_ | refine g_pu rfl rfl rfl (pu_move rfl rfl) ?_
          first | refine g_pass rfl rfl rfl ?_ | refine g_pu rfl rfl rfl (pu_eqlS rfl rfl rfl) ?_
          first | refine g_pu rfl rfl rfl (pu_pick_t rfl rfl rfl) ?_ | refine g_pu rfl rfl rfl (pu_pick_f rfl rfl rfl) ?_
          refine g_pu rfl rfl rfl (pu_move rfl rfl) ?_
          first | refine g_pass rfl rfl rfl ?_ | refine g_pu rfl rfl rfl (pu_move rfl rfl) ?_
          refine g_pu rfl rfl rfl (pu_eqlS_t rfl rfl rfl hse) ?_
          first | refine g_pass rfl rfl rfl ?_ | refine g_pu rfl rfl rfl (pu_move rfl rfl) ?_
          first | refine g_pass rfl rfl rfl ?_ | refine g_pu rfl rfl rfl (pu_move rfl rfl) ?_
          first | refine g_pass rfl rfl rfl ?_ | refine g_pu rfl rfl rfl (pu_move rfl rfl) ?_
          refine g_pu rfl rfl rfl (pu_atM i (s := 66) (L := nodsC hs) (fun w' hm => hp.mem0 hm) rfl rfl rfl rfl hlt (by omega)) ?_
          refine g_pu rfl rfl rfl (pu_fieldM (L := nodsC hs) (fun w' hm => hp.mem0 hm) (by omega) (by decide) rfl rfl) ?_
          refine g_pu rfl rfl rfl (pu_rdM (L := nodsC hs) (j := i * 66 + 1) (fun w' hm => hp.mem0 hm) rfl rfl c1) ?_
          first | refine g_pass rfl rfl rfl ?_ | refine g_pu rfl rfl rfl (pu_move rfl rfl) ?_
          refine g_pu rfl rfl rfl (pu_eql64 rfl rfl rfl) ?_
          first | refine g_pass rfl rfl rfl ?_ | refine g_pu rfl rfl rfl (pu_pick_t rfl rfl rfl) ?_ | refine g_pu rfl rfl rfl (pu_pick_f rfl rfl rfl) ?_
          first | refine g_pu rfl rfl rfl (pu_pick_t rfl rfl rfl) ?_ | refine g_pu rfl rfl rfl (pu_pick_f rfl rfl rfl) ?_
          refine g_nil ?_
          exact g_meet () trivial ⟨rfl, rfl, rfl, rfl, rfl, rfl, trivial⟩ ⟨rfl, trivial⟩
        · by_cases hnm : x.name = s
          · rw [show isOne s z x = true by rw [isOne_n z hse]; exact decide_eq_true hnm]
            (repeat refine g_seq ?_)
            refine g_region ?_
            refine g_pu rfl rfl rfl (pu_move rfl rfl) ?_
            refine g_pu rfl rfl rfl (pu_neqS rfl rfl rfl) ?_
            rw [decide_eq_true hse]
            refine g_pu rfl rfl rfl (pu_move rfl rfl) ?_
            first | refine g_pass rfl rfl rfl ?_ | refine g_pu rfl rfl rfl (pu_move rfl rfl) ?_
            first | refine g_pass rfl rfl rfl ?_ | refine g_pu rfl rfl rfl (pu_move rfl rfl) ?_
            refine g_pu rfl rfl rfl (pu_atM i (s := 66) (L := nodsC hs) (fun w' hm => hp.mem0 hm) rfl rfl rfl rfl hlt (by omega)) ?_
            refine g_pu rfl rfl rfl (pu_fieldM (L := nodsC hs) (fun w' hm => hp.mem0 hm) (by omega) (by decide) rfl rfl) ?_
            refine g_pu rfl rfl rfl (pu_rdM (L := nodsC hs) (j := i * 66 + 0) (fun w' hm => hp.mem0 hm) rfl rfl c0) ?_
            first | refine g_pass rfl rfl rfl ?_ | refine g_pu rfl rfl rfl (pu_move rfl rfl) ?_
            refine g_pu rfl rfl rfl (pu_eqlS_t rfl rfl rfl hnm) ?_
            first | refine g_pu rfl rfl rfl (pu_pick_t rfl rfl rfl) ?_ | refine g_pu rfl rfl rfl (pu_pick_f rfl rfl rfl) ?_
            refine g_pu rfl rfl rfl (pu_move rfl rfl) ?_
            first | refine g_pass rfl rfl rfl ?_ | refine g_pu rfl rfl rfl (pu_move rfl rfl) ?_
            first | refine g_pass rfl rfl rfl ?_ | refine g_pu rfl rfl rfl (pu_eqlS rfl rfl rfl) ?_
            first | refine g_pass rfl rfl rfl ?_ | refine g_pu rfl rfl rfl (pu_move rfl rfl) ?_
            first | refine g_pass rfl rfl rfl ?_ | refine g_pu rfl rfl rfl (pu_move rfl rfl) ?_
            first | refine g_pass rfl rfl rfl ?_ | refine g_pu rfl rfl rfl (pu_move rfl rfl) ?_
            refine g_pass rfl rfl rfl ?_
            first | refine g_pass rfl rfl rfl ?_ | refine g_pu rfl rfl rfl (pu_fieldAddr (by decide) rfl rfl) ?_
            refine g_pass rfl rfl rfl ?_
            first | refine g_pass rfl rfl rfl ?_ | refine g_pu rfl rfl rfl (pu_move rfl rfl) ?_
            first | refine g_pass rfl rfl rfl ?_ | refine g_pu rfl rfl rfl (pu_eql64_t rfl rfl rfl (by first | rfl | assumption | decide)) ?_ | refine g_pu rfl rfl rfl (pu_eql64_f rfl rfl rfl (by first | assumption | decide)) ?_ | refine g_pu rfl rfl rfl (pu_eql64 rfl rfl rfl) ?_
            first | refine g_pass rfl rfl rfl ?_ | refine g_pu rfl rfl rfl (pu_pick_t rfl rfl rfl) ?_ | refine g_pu rfl rfl rfl (pu_pick_f rfl rfl rfl) ?_
            first | refine g_pu rfl rfl rfl (pu_pick_t rfl rfl rfl) ?_ | refine g_pu rfl rfl rfl (pu_pick_f rfl rfl rfl) ?_
            refine g_nil ?_
            exact g_meet () trivial ⟨rfl, rfl, rfl, rfl, rfl, rfl, trivial⟩ ⟨rfl, trivial⟩
          · rw [show isOne s z x = false by rw [isOne_n z hse]; exact decide_eq_false hnm]
            (repeat refine g_seq ?_)
            refine g_region ?_
            refine g_pu rfl rfl rfl (pu_move rfl rfl) ?_
            refine g_pu rfl rfl rfl (pu_neqS rfl rfl rfl) ?_
            rw [decide_eq_true hse]
            refine g_pu rfl rfl rfl (pu_move rfl rfl) ?_
            first | refine g_pass rfl rfl rfl ?_ | refine g_pu rfl rfl rfl (pu_move rfl rfl) ?_
            first | refine g_pass rfl rfl rfl ?_ | refine g_pu rfl rfl rfl (pu_move rfl rfl) ?_
            refine g_pu rfl rfl rfl (pu_atM i (s := 66) (L := nodsC hs) (fun w' hm => hp.mem0 hm) rfl rfl rfl rfl hlt (by omega)) ?_
            refine g_pu rfl rfl rfl (pu_fieldM (L := nodsC hs) (fun w' hm => hp.mem0 hm) (by omega) (by decide) rfl rfl) ?_
            refine g_pu rfl rfl rfl (pu_rdM (L := nodsC hs) (j := i * 66 + 0) (fun w' hm => hp.mem0 hm) rfl rfl c0) ?_
            first | refine g_pass rfl rfl rfl ?_ | refine g_pu rfl rfl rfl (pu_move rfl rfl) ?_
            refine g_pu rfl rfl rfl (pu_eqlS rfl rfl rfl) ?_
            rw [decide_eq_false hnm]
            first | refine g_pu rfl rfl rfl (pu_pick_t rfl rfl rfl) ?_ | refine g_pu rfl rfl rfl (pu_pick_f rfl rfl rfl) ?_
            refine g_pu rfl rfl rfl (pu_move rfl rfl) ?_
            first | refine g_pass rfl rfl rfl ?_ | refine g_pu rfl rfl rfl (pu_move rfl rfl) ?_
            refine g_pu rfl rfl rfl (pu_eqlS rfl rfl rfl) ?_
            rw [decide_eq_false hse]
            first | refine g_pass rfl rfl rfl ?_ | refine g_pu rfl rfl rfl (pu_move rfl rfl) ?_
            first | refine g_pass rfl rfl rfl ?_ | refine g_pu rfl rfl rfl (pu_move rfl rfl) ?_
            first | refine g_pass rfl rfl rfl ?_ | refine g_pu rfl rfl rfl (pu_move rfl rfl) ?_
            refine g_pass rfl rfl rfl ?_
            first | refine g_pass rfl rfl rfl ?_ | refine g_pu rfl rfl rfl (pu_fieldAddr (by decide) rfl rfl) ?_
            refine g_pass rfl rfl rfl ?_
            first | refine g_pass rfl rfl rfl ?_ | refine g_pu rfl rfl rfl (pu_move rfl rfl) ?_
            first | refine g_pass rfl rfl rfl ?_ | refine g_pu rfl rfl rfl (pu_eql64_t rfl rfl rfl (by first | rfl | assumption | decide)) ?_ | refine g_pu rfl rfl rfl (pu_eql64_f rfl rfl rfl (by first | assumption | decide)) ?_ | refine g_pu rfl rfl rfl (pu_eql64 rfl rfl rfl) ?_
            first | refine g_pass rfl rfl rfl ?_ | refine g_pu rfl rfl rfl (pu_pick_t rfl rfl rfl) ?_ | refine g_pu rfl rfl rfl (pu_pick_f rfl rfl rfl) ?_
            first | refine g_pu rfl rfl rfl (pu_pick_t rfl rfl rfl) ?_ | refine g_pu rfl rfl rfl (pu_pick_f rfl rfl rfl) ?_
            refine g_nil ?_
            exact g_meet () trivial ⟨rfl, rfl, rfl, rfl, rfl, rfl, trivial⟩ ⟨rfl, trivial⟩
      cases hpx : isOne s z x
      · (repeat refine g_seq ?_)
        refine g_cond_f rfl (g_skip ?_)
        refine g_blk ?_
        (repeat refine g_seq ?_)
        refine g_region ?_
        refine g_pu rfl rfl rfl (pu_move rfl rfl) ?_
        refine g_pu rfl rfl rfl (pu_addI rfl rfl rfl (by omega)) ?_
        refine g_pu rfl rfl rfl (pu_assign rfl rfl) ?_
        refine g_nil ?_
        exact g_round (i + 1) ⟨by omega, find_next hno h1 hpx⟩ (by omega) ⟨rfl, rfl, rfl, rfl, rfl, trivial⟩ ⟨rfl, trivial⟩
      · (repeat refine g_seq ?_)
        refine g_cond_t rfl ?_
        rw [findR_some h0 (find_at hno h1 hpx)]
        (repeat refine g_seq ?_)
        refine g_region ?_
        refine g_pu rfl rfl rfl (pu_move rfl rfl) ?_
        refine g_pu rfl rfl rfl (pu_move rfl rfl) ?_
        refine g_pu rfl rfl rfl (pu_atM i (s := 66) (L := nodsC hs) (fun w' hm => hp.mem0 hm) rfl rfl rfl rfl hlt (by omega)) ?_
        refine g_pu rfl rfl rfl (pu_rdMA (L := nodsC hs) (j := i * 66) (s := 66) (fun w' hm => hp.mem0 hm) rfl rfl (by omega) (by omega)) ?_
        rw [hg]
        refine g_storeL 6 (s := 66) (C := nodeC x) rfl rfl rfl rfl rfl rfl hnl hzl (oneCell_node _) ?_
        refine g_pu rfl rfl rfl (pu_assign rfl rfl) ?_
        refine g_nil ?_
        exact g_retLT 6 (L := nodeC x) rfl hnl rfl rfl rfl (fun w' hm => ⟨(), trivial, rfl, hm.grows [] trivial rfl⟩)
    · (repeat refine g_seq ?_)
      refine g_region ?_
      refine g_pu rfl rfl rfl (pu_move rfl rfl) ?_
      refine g_pu rfl rfl rfl (pu_move rfl rfl) ?_
      first | refine g_pu rfl rfl rfl (pu_len rfl rfl) ?_ | refine g_pu rfl rfl rfl (pu_lenS rfl rfl) ?_
      refine g_pu rfl rfl rfl (pu_lss_f rfl rfl rfl (by omega)) ?_
      refine g_nil ?_
      (repeat refine g_seq ?_)
      refine g_cond_f rfl (g_exit rfl ?_)
      rw [List.take_of_length_le (by omega)] at hno
      rw [findR_none h0 hno]
      (repeat refine g_seq ?_)
      refine g_region ?_
      refine g_pu rfl rfl rfl (pu_buildS (cs := nodeC zN) rfl rfl rfl) ?_
      refine g_storeL 6 (s := 66) (C := nodeC zN) rfl rfl rfl rfl rfl rfl hzl hzl (oneCell_node _) ?_
      refine g_pu rfl rfl rfl (pu_assign rfl rfl) ?_
      refine g_nil ?_
      exact g_retLT 6 (L := nodeC zN) rfl hzl rfl rfl rfl (fun w' hm => ⟨(), trivial, rfl, hm.grows [] trivial rfl⟩)
  · rw [findR_bad h0]
    (repeat refine g_seq ?_)
    refine g_region ?_
    refine g_pu rfl rfl rfl (pu_move rfl rfl) ?_
    refine g_pu rfl rfl rfl (pu_neq_t rfl rfl rfl h0) ?_
    refine g_nil ?_
    (repeat refine g_seq ?_)
    refine g_cond_t rfl ?_
    (repeat refine g_seq ?_)
    refine g_region ?_
    refine g_pu rfl rfl rfl (pu_buildS (cs := nodeC zN) rfl rfl rfl) ?_
    refine g_pu rfl rfl rfl (pu_move rfl rfl) ?_
    refine g_storeL 6 (s := 66) (C := nodeC zN) rfl rfl rfl rfl rfl rfl hzl rfl (oneCell_node _) ?_
    refine g_pu rfl rfl rfl (pu_assign rfl rfl) ?_
    refine g_nil ?_
    exact g_retLT 6 (L := nodeC zN) rfl hzl rfl rfl rfl (fun w' hm => ⟨(), trivial, rfl, hm.grows [] trivial rfl⟩)

theorem SClone_n (w : World) {p : Option Addr} {n : Nat} (c : Nat) {l : List (BitVec 8)} (ha : By w p n l) :
    Spec Try.prog 43 #[.slice p n c] w (σ := Ow) (fun _ => True) (fun x => x.sl n) Nob (fun x => [x.ck 5 1 (bs l)]) := by
  refine enter Try.func43 rfl rfl (Mem.start w) ?_
  have hn := ha.len
  have hbig := ha.big
  (repeat refine g_seq ?_)
  refine g_region ?_
  refine g_pu rfl rfl rfl (pu_assign rfl rfl) ?_
  refine g_nil ?_
  cases p with
  | none =>
    have h0 := ha.nil0
    subst h0
    have hl0 : l = [] := List.eq_nil_of_length_eq_zero hn
    subst hl0
    (repeat refine g_seq ?_)
    refine g_region ?_
    refine g_pu rfl rfl rfl (pu_move rfl rfl) ?_
    refine g_pu rfl rfl rfl (pu_eqlN rfl rfl rfl) ?_
    refine g_nil ?_
    (repeat refine g_seq ?_)
    refine g_cond_t rfl ?_
    (repeat refine g_seq ?_)
    refine g_region ?_
    refine g_pu rfl rfl rfl (pu_assign rfl rfl) ?_
    refine g_nil ?_
    exact g_nilOwn 90 5 1 rfl (g_ret1 rfl rfl (fun w' hm => ⟨⟨none, 0⟩, trivial, rfl, hm.grows [90] ⟨rfl, trivial⟩ rfl⟩))
  | some a =>
    (repeat refine g_seq ?_)
    refine g_region ?_
    refine g_pu rfl rfl rfl (pu_move rfl rfl) ?_
    refine g_pu rfl rfl rfl (pu_eqlN rfl rfl rfl) ?_
    refine g_nil ?_
    (repeat refine g_seq ?_)
    refine g_cond_f rfl (g_skip ?_)
    (repeat refine g_seq ?_)
    refine g_region ?_
    refine g_lo [5] rfl rfl rfl rfl (lo_buildSlice0 rfl) (fun b5 hb5 => ?_)
    refine g_own 5 (L := []) (J := []) (c := 0) (s := 1) rfl (by simp) (by omega) ?_
    refine g_pu rfl rfl rfl (pu_move rfl rfl) ?_
    refine g_append1 5 (bs l) rfl rfl rfl rfl rfl rfl rfl rfl rfl (fun w' hm => (ha.m hm).rd) (by rw [bs_length, hn]) (oneCell_bs l) (by omega) (by omega) (fun p' c' => ?_)
    refine g_pu rfl rfl rfl (pu_assign rfl rfl) ?_
    refine g_nil ?_
    exact g_ret1 rfl rfl (fun w' hm => ⟨⟨p', c'⟩, trivial, by simp [Ow.sl], hm.grows [5] ⟨rfl, trivial⟩ rfl⟩)
theorem By.nodB (t : Nat) {w0 w : World} {D : Blocks} {M : List (Nat × Ck)} {b : Nat} {E : TypeId} {fz : Nat × Nat} {x : Hop} (hM : mget M t = some (.pt b (.cells (nodeC x).toArray E fz))) (hm : Mem w0 D M w) (ho : x.ok) : By w (some ⟨b, 34, none⟩) 32 x.pb := by
  refine ⟨RdV.pt (hm.holds t _ hM) (fun i v hv => ?_), ho.2, by omega⟩
  have hi : i < 32 := by
    have := (List.getElem?_eq_some_iff.1 hv).1
    rw [bs_length, ho.2] at this
    exact this
  rw [← node_pb ho, List.getElem?_take, if_pos hi, List.getElem?_drop] at hv
  rw [List.getElem?_toArray]
  exact hv

theorem NPublic_b (w : World) {x : Hop} (ho : x.ok) : Spec Try.prog 22 #[.agg (nodeC x).toArray] w (σ := Ow) (fun _ => True) (fun y => y.sl 32) Nob (fun y => [y.ck 5 1 (bs x.pb)]) := by
  refine enter Try.func22 rfl rfl (Mem.start w) ?_
  (repeat refine g_seq ?_)
  refine g_region ?_
  refine g_lo [1] rfl rfl rfl rfl (lo_box rfl rfl) (fun b1 hb1 => ?_)
  refine g_pu rfl rfl rfl (pu_assign rfl rfl) ?_
  refine g_nil ?_
  (repeat refine g_seq ?_)
  refine g_region ?_
  refine g_pu rfl rfl rfl (pu_fieldAddr (by decide) rfl rfl) ?_
  refine g_pu rfl rfl rfl (pu_fieldAddr (by decide) rfl rfl) ?_
  refine g_pu rfl rfl rfl (pu_sliceA rfl rfl) ?_
  refine g_call [6] rfl rfl rfl rfl rfl rfl (fun w' hm => SClone_n w' 32 (l := x.pb) (By.nodB 1 rfl hm ho)) (fun x6 _ => ?_)
  refine g_pu rfl rfl rfl (pu_assign rfl rfl) ?_
  refine g_nil ?_
  exact g_ret1 rfl rfl (fun w' hm => ⟨x6, trivial, rfl, hm.grows [6] ⟨rfl, trivial⟩ rfl⟩)
theorem NPrivate_b (w : World) {x : Hop} (ho : x.ok) : Spec Try.prog 23 #[.agg (nodeC x).toArray] w (σ := Ow) (fun _ => True) (fun y => y.sl 32) Nob (fun y => [y.ck 5 1 (bs x.pv)]) := by
  refine enter Try.func23 rfl rfl (Mem.start w) ?_
  (repeat refine g_seq ?_)
  refine g_region ?_
  refine g_lo [1] rfl rfl rfl rfl (lo_box rfl rfl) (fun b1 hb1 => ?_)
  refine g_pu rfl rfl rfl (pu_assign rfl rfl) ?_
  refine g_nil ?_
  (repeat refine g_seq ?_)
  refine g_region ?_
  refine g_pu rfl rfl rfl (pu_fieldAddr (by decide) rfl rfl) ?_
  refine g_pu rfl rfl rfl (pu_fieldAddr (by decide) rfl rfl) ?_
  refine g_pu rfl rfl rfl (pu_sliceA rfl rfl) ?_
  refine g_call [6] rfl rfl rfl rfl rfl rfl (fun w' hm => SClone_n w' 32 (l := x.pv) (By.nodT 1 rfl hm ho)) (fun x6 _ => ?_)
  refine g_pu rfl rfl rfl (pu_assign rfl rfl) ?_
  refine g_nil ?_
  exact g_ret1 rfl rfl (fun w' hm => ⟨x6, trivial, rfl, hm.grows [6] ⟨rfl, trivial⟩ rfl⟩)
end Go.Sx

/-
  The judgement of Sx in a fence: for the body of a range over a function, and for a function that holds one. No condition: it speaks of any program.
-/
import Derived.Test.YtckfeakolpjleaaSxAnyK
import Derived.RangeFuncFrom
import Derived.RangeFuncLeaves
import Derived.RangeFuncCalls
import Derived.OwnWalkIn
set_option linter.unusedVariables false
set_option linter.unusedSimpArgs false
namespace Go.Sx
open Go Go.RowKit

/-- The wide fence, in a round or in none. -/
def FW (ro : Option Nat) : Fence := { Fence.wide with round := ro }
theorem FW_none : FW none = Fence.wide := rfl
theorem FW_some (l : Nat) : FW (some l) = Fence.wide.inRound l := rfl
theorem callsFW {ro : Option Nat} {n : Nat} {P : Program} {f : FuncId} {args : Array Value} {w : World} {R : Ending → World → Prop} (h : Calls P f args w R) : CallsIn (FW ro) n P f args w R := by
  have h1 : CallsIn Fence.wide n P f args w R := callsIn_wide.2 h
  exact h1

structure SatD (df : List Deferred) (N : Nat) (e : List (Nat × Value)) (a : Act) : Prop where
  size : a.tmps.size = N
  defers : a.defers = df
  slot : ∀ i v, get e i = some v → a.tmps[i]? = some v
theorem SatD.plain {df : List Deferred} {N : Nat} {e : List (Nat × Value)} {a : Act} (h : SatD df N e a) : Sat N e { a with defers := [] } := ⟨h.size, rfl, h.slot⟩
theorem Sat.dress {N : Nat} {e : List (Nat × Value)} {a : Act} (h : Sat N e a) : SatD [] N e a := ⟨h.size, h.defers, h.slot⟩
theorem SatD.eval {df : List Deferred} {N : Nat} {e : List (Nat × Value)} {a : Act} {x : Operand} {v : Value} (h : SatD df N e a) (hx : ev e x = some v) : a.eval x = v := h.plain.eval hx
theorem SatD.put {df : List Deferred} {N : Nat} {e : List (Nat × Value)} {a : Act} (h : SatD df N e a) {d : Nat} (hd : d < N) (v : Value) : SatD df N ((d, v) :: e) (a.put (some d) v) := by
  have h1 := h.plain.put hd v
  exact ⟨h1.size, by simp [Act.put, h.defers], h1.slot⟩
theorem SatD.sub {df : List Deferred} {N : Nat} {e e' : List (Nat × Value)} {a : Act} (h : SatD df N e a) (hs : ∀ p ∈ e', get e p.1 = some p.2) : SatD df N e' a := by
  have h1 := h.plain.sub hs
  exact ⟨h1.size, h.defers, h1.slot⟩

section
variable (ro : Option Nat) (n : Nat) (P : Program) (Q : Exit → Act → World → Prop)
def extR : List It → Exit → Act → World → Prop
  | .code c :: k, .normal, a, w => c.wpIn (FW ro) n P (extR k) a w
  | .ops all l :: k, .normal, a, w => wpListIn (FW ro) n P all (extR k) l a w
  | .blk _ :: k, .normal, a, w => extR k .normal a w
  | .blk id :: k, .exit i, a, w => if i = id then extR k .normal a w else extR k (.exit i) a w
  | .inv I :: _, .normal, a, w => I a w
  | [], e, a, w => Q e a w
  | _ :: k, e, a, w => extR k e a w
end
def GR (ro : Option Nat) (n : Nat) (P : Program) (Q : Exit → Act → World → Prop) (df : List Deferred) (N : Nat) (w0 : World) (D : Blocks) (e : List (Nat × Value)) (M : List (Nat × Ck)) (k : List It) : Prop :=
  ∀ a w, SatD df N e a → Mem w0 D M w → extR ro n P Q k .normal a w

section
variable {ro : Option Nat} {n : Nat} {P : Program} {Q : Exit → Act → World → Prop} {df : List Deferred} {N : Nat} {w0 : World} {D : Blocks} {e : List (Nat × Value)} {M : List (Nat × Ck)} {k : List It}

theorem extR_then (c : Code) (k : List It) : Exit.then (c.wpIn (FW ro) n P (extR ro n P Q k)) (extR ro n P Q k) = extR ro n P Q (.code c :: k) := by
  funext x a w
  cases x <;> simp [Exit.then, extR]
theorem extR_block (id : Nat) (k : List It) : Exit.inBlock id (extR ro n P Q k) = extR ro n P Q (.blk id :: k) := by
  funext x a w
  cases x <;> simp [Exit.inBlock, extR]
theorem extR_inv (I : Act → World → Prop) (k : List It) : Exit.then I (extR ro n P Q k) = extR ro n P Q (.inv I :: k) := by
  funext x a w
  cases x <;> simp [Exit.then, extR]
theorem extR_ret : ∀ (k : List It) (a : Act) (w : World), extR ro n P Q k .ret a w = Q .ret a w
  | [], _, _ => by simp [extR]
  | x :: k, a, w => by cases x <;> simp [extR, extR_ret k]
theorem extR_exit {id : Nat} : ∀ {k k' : List It}, popTo id k = some k' → ∀ a w, extR ro n P Q k (.exit id) a w = extR ro n P Q k' .normal a w
  | [], _, h, _, _ => by simp [popTo] at h
  | .blk i :: k, k', h, a, w => by
    simp only [popTo] at h
    by_cases hi : id = i
    · subst hi
      simp at h
      simp [extR, h]
    · have hb : Nat.beq id i = false := by
        cases hb : Nat.beq id i with
        | false => rfl
        | true => exact absurd (Nat.eq_of_beq_eq_true hb) hi
      simp only [hb, cond_false] at h
      simp only [extR, if_neg hi]
      exact extR_exit h a w
  | .code c :: k, k', h, a, w => by simp only [popTo] at h; simp only [extR]; exact extR_exit h a w
  | .ops _ _ :: k, k', h, a, w => by simp only [popTo] at h; simp only [extR]; exact extR_exit h a w
  | .inv _ :: k, k', h, a, w => by simp only [popTo] at h; simp only [extR]; exact extR_exit h a w

theorem r_seq {x y : Code} (h : GR ro n P Q df N w0 D e M (.code x :: .code y :: k)) : GR ro n P Q df N w0 D e M (.code (.seq x y) :: k) :=
  fun a w hs hm => by
    have := h a w hs hm
    simp only [extR] at this ⊢
    exact wpIn_seq (by rw [extR_then]; exact this)
theorem r_block {id : Nat} {c : Code} (h : GR ro n P Q df N w0 D e M (.code c :: .blk id :: k)) : GR ro n P Q df N w0 D e M (.code (.block id c) :: k) :=
  fun a w hs hm => by
    have := h a w hs hm
    simp only [extR] at this ⊢
    exact wpIn_block (by rw [extR_block]; exact this)
theorem r_blk {id : Nat} (h : GR ro n P Q df N w0 D e M k) : GR ro n P Q df N w0 D e M (.blk id :: k) :=
  fun a w hs hm => by simp only [extR]; exact h a w hs hm
theorem r_skip (h : GR ro n P Q df N w0 D e M k) : GR ro n P Q df N w0 D e M (.code .skip :: k) :=
  fun a w hs hm => by simp only [extR]; exact wpIn_skip (h a w hs hm)
theorem r_exit {id : Nat} {k' : List It} (hp : popTo id k = some k') (h : GR ro n P Q df N w0 D e M k') : GR ro n P Q df N w0 D e M (.code (.exit id) :: k) :=
  fun a w hs hm => by simp only [extR]; exact wpIn_exit (by rw [extR_exit hp]; exact h a w hs hm)
theorem r_cond_t {c : Operand} {x y : Code} (hc : ev e c = some (.bool true)) (h : GR ro n P Q df N w0 D e M (.code x :: k)) : GR ro n P Q df N w0 D e M (.code (.cond c x y) :: k) :=
  fun a w hs hm => by
    have := h a w hs hm
    simp only [extR] at this ⊢
    exact wpIn_cond_true (hs.eval hc) this
theorem r_cond_f {c : Operand} {x y : Code} (hc : ev e c = some (.bool false)) (h : GR ro n P Q df N w0 D e M (.code y :: k)) : GR ro n P Q df N w0 D e M (.code (.cond c x y) :: k) :=
  fun a w hs hm => by
    have := h a w hs hm
    simp only [extR] at this ⊢
    exact wpIn_cond_false (hs.eval hc) this
theorem r_sub {e' : List (Nat × Value)} {M' : List (Nat × Ck)} (he : SubE e e') (hM : SubM M M') (h : GR ro n P Q df N w0 D e' M' k) : GR ro n P Q df N w0 D e M k :=
  fun a w hs hm => h a w (hs.sub he.all) (hm.sub hM.all)
/-- A loop whose rounds lower a number that the state tells. -/
theorem r_loop {σ : Type} (E : σ → List (Nat × Value)) (X : σ → List (Nat × Ck)) (C : σ → Prop) (m : σ → Nat) (s0 : σ) {body : Code}
    (hE : SubE e (E s0)) (hX : SubM M (X s0)) (h0 : C s0)
    (hr : ∀ s, C s → GR ro n P Q df N w0 D (E s) (X s) (.code body :: .inv (fun a w => ∃ s', C s' ∧ m s' < m s ∧ SatD df N (E s') a ∧ Mem w0 D (X s') w) :: k)) :
    GR ro n P Q df N w0 D e M (.code (.loop body) :: k) := by
  intro a w hs hm
  simp only [extR]
  have key : ∀ (j : Nat) (s : σ), m s = j → C s → ∀ a w, SatD df N (E s) a → Mem w0 D (X s) w → (Code.loop body).wpIn (FW ro) n P (extR ro n P Q k) a w := by
    intro j s hj hc a w hs hm
    classical
    let good (q : Nat) (a : Act) (w : World) : Prop := ∃ s, C s ∧ m s = q ∧ SatD df N (E s) a ∧ Mem w0 D (X s) w
    let μ (a : Act) (w : World) : Nat := if h : ∃ q, good q a w then Classical.choose (p := fun q => good q a w ∧ ∀ q', good q' a w → q ≤ q') (by
      obtain ⟨q, hn⟩ := h
      induction q using Nat.strongRecOn with
      | _ q ih =>
        by_cases hlt : ∃ q', q' < q ∧ good q' a w
        · obtain ⟨q', h1, h2⟩ := hlt; exact ih q' h1 h2
        · exact ⟨q, hn, fun q' hq' => by
            rcases Nat.lt_or_ge q' q with h1 | h1
            · exact absurd ⟨q', h1, hq'⟩ hlt
            · exact h1⟩) else 0
    have hμ : ∀ a w, (∃ q, good q a w) → good (μ a w) a w ∧ ∀ q', good q' a w → μ a w ≤ q' := by
      intro a w h
      simp only [μ, dif_pos h]
      exact Classical.choose_spec (p := fun q => good q a w ∧ ∀ q', good q' a w → q ≤ q') _
    refine wpIn_loop (fun a w => ∃ s, C s ∧ SatD df N (E s) a ∧ Mem w0 D (X s) w) μ ⟨s, hc, hs, hm⟩ ?_
    intro a w ⟨s, hc, hsat, hmem⟩
    obtain ⟨⟨s1, hc1, hm1, hs1, hx1⟩, _⟩ := hμ a w ⟨m s, s, hc, rfl, hsat, hmem⟩
    have := hr s1 hc1 a w hs1 hx1
    simp only [extR] at this
    rw [← extR_inv] at this
    refine Go.wpIn_mono this ?_
    intro x a' w' hx
    cases x with
    | normal =>
      obtain ⟨s', hc', hlt, hs', hx'⟩ := hx
      refine ⟨⟨s', hc', hs', hx'⟩, ?_⟩
      have := (hμ a' w' ⟨m s', s', hc', rfl, hs', hx'⟩).2 (m s') ⟨s', hc', rfl, hs', hx'⟩
      omega
    | _ => exact hx
  exact key _ s0 rfl h0 a w (hs.sub hE.all) (hm.sub hX.all)
theorem r_round {σ : Type} {E : σ → List (Nat × Value)} {X : σ → List (Nat × Ck)} {C : σ → Prop} {m : σ → Nat} {s : σ} (s' : σ) (hc : C s') (hlt : m s' < m s)
    (hE : SubE e (E s')) (hX : SubM M (X s')) :
    GR ro n P Q df N w0 D e M (.inv (fun a w => ∃ s', C s' ∧ m s' < m s ∧ SatD df N (E s') a ∧ Mem w0 D (X s') w) :: k) :=
  fun a w hs hm => by simp only [extR]; exact ⟨s', hc, hlt, hs.sub hE.all, hm.sub hX.all⟩
/-- Two ways meet. -/
theorem r_join {σ : Type} (E : σ → List (Nat × Value)) (X : σ → List (Nat × Ck)) (C : σ → Prop) {c : Code}
    (h1 : GR ro n P Q df N w0 D e M (.code c :: .inv (fun a w => ∃ s', C s' ∧ SatD df N (E s') a ∧ Mem w0 D (X s') w) :: k))
    (h2 : ∀ s, C s → GR ro n P Q df N w0 D (E s) (X s) k) : GR ro n P Q df N w0 D e M (.code c :: k) := by
  intro a w hs hm
  have := h1 a w hs hm
  simp only [extR] at this ⊢
  rw [← extR_inv] at this
  refine Go.wpIn_mono this ?_
  intro x a' w' hx
  cases x with
  | normal => obtain ⟨s', hc', hs', hx'⟩ := hx; exact h2 s' hc' a' w' hs' hx'
  | _ => exact hx
theorem r_meet {σ : Type} {E : σ → List (Nat × Value)} {X : σ → List (Nat × Ck)} {C : σ → Prop} (s' : σ) (hc : C s') (hE : SubE e (E s')) (hX : SubM M (X s')) :
    GR ro n P Q df N w0 D e M (.inv (fun a w => ∃ s', C s' ∧ SatD df N (E s') a ∧ Mem w0 D (X s') w) :: k) :=
  fun a w hs hm => by simp only [extR]; exact ⟨s', hc, hs.sub hE.all, hm.sub hX.all⟩
theorem r_region {id : Nat} {l : List Oper} (h : GR ro n P Q df N w0 D e M (.ops l.toArray l :: k)) : GR ro n P Q df N w0 D e M (.code (.region id l.toArray false) :: k) :=
  fun a w hs hm => by
    have := h a w hs hm
    simp only [extR] at this ⊢
    exact wpIn_region_lit this
theorem r_nil {all : Array Oper} (h : GR ro n P Q df N w0 D e M k) : GR ro n P Q df N w0 D e M (.ops all [] :: k) :=
  fun a w hs hm => by simp only [extR]; exact wpListIn_nil (h a w hs hm)
def notDefer (o : Oper) : Bool := match o.op with | .defer _ => false | _ => true
theorem notDefer_spec {o : Oper} (h : notDefer o = true) : ∀ c, o.op ≠ .defer c := fun c hc => by simp [notDefer, hc] at h
/-- An operation under no guard. -/
theorem r_op {all : Array Oper} {o : Oper} {rest : List Oper} (hg : o.guard = none) (hd : notDefer o = true)
    (h : ∀ a w, SatD df N e a → Mem w0 D M w → ∀ K : Act → World → Prop, (∀ a w, wpListIn (FW ro) n P all (extR ro n P Q k) rest a w → K a w) → o.uponIn (FW ro) n P a K (extR ro n P Q k) ((execOp a.eval o).run P w)) :
    GR ro n P Q df N w0 D e M (.ops all (o :: rest) :: k) :=
  fun a w hs hm => by
    simp only [extR]
    refine wpListIn_plain hg fun K hK => ?_
    refine ⟨fun _ _ => trivial, ?_⟩
    rw [Oper.semAt_plain (FW ro) _ _ (notDefer_spec hd)]
    exact h a w hs hm K hK
theorem r_pu {all : Array Oper} {o : Oper} {rest : List Oper} {d : Nat} {v : Value} (hg : o.guard = none) (hnd : notDefer o = true) (hd : o.dst = some d) (hN : Nat.blt d N = true) (hp : Pu P N w0 D e M o v)
    (h : GR ro n P Q df N w0 D ((d, v) :: e) M (.ops all rest :: k)) : GR ro n P Q df N w0 D e M (.ops all (o :: rest) :: k) :=
  r_op hg hnd fun a w hs hm K hK => by
    have hr : (execOp a.eval o).run P w = .ok (.value v) w := hp { a with defers := [] } w hs.plain hm
    rw [hr]
    simp only [Oper.uponIn, hd]
    have := h _ w (hs.put (by simpa [Nat.blt_eq] using hN) v) hm
    exact hK _ _ (by simpa only [extR] using this)
theorem r_st {M' : List (Nat × Ck)} {all : Array Oper} {o : Oper} {rest : List Oper} (hg : o.guard = none) (hnd : notDefer o = true) (hd : o.dst = none) (hp : St P N w0 D e M o M')
    (h : GR ro n P Q df N w0 D e M' (.ops all rest :: k)) : GR ro n P Q df N w0 D e M (.ops all (o :: rest) :: k) :=
  r_op hg hnd fun a w hs hm K hK => by
    obtain ⟨w', hr0, hm'⟩ := hp { a with defers := [] } w hs.plain hm
    have hr : (execOp a.eval o).run P w = .ok .skip w' := hr0
    rw [hr]
    simp only [Oper.uponIn, hd, Act.put]
    have := h a w' hs hm'
    exact hK _ _ (by simpa only [extR] using this)
theorem r_lo {σ : Type} {pr : σ → Prop} {val : σ → Value} {new : σ → List Ck} {all : Array Oper} {o : Oper} {rest : List Oper} {d : Nat} (ts : List Nat) (hg : o.guard = none) (hnd : notDefer o = true) (hd : o.dst = some d) (hN : Nat.blt d N = true) (hf : fresh M ts = true)
    (hl : Lo P N w0 D e M o pr val new) (h : ∀ x, pr x → GR ro n P Q df N w0 D ((d, val x) :: e) (tags ts (new x) ++ M) (.ops all rest :: k)) : GR ro n P Q df N w0 D e M (.ops all (o :: rest) :: k) :=
  r_op hg hnd fun a w hs hm K hK => by
    obtain ⟨x, w', hpr, hr0, hgr⟩ := hl { a with defers := [] } w hs.plain hm
    have hr : (execOp a.eval o).run P w = .ok (.value (val x)) w' := hr0
    rw [hr]
    simp only [Oper.uponIn, hd]
    have := h x hpr _ w' (hs.put (by simpa [Nat.blt_eq] using hN) (val x)) (hm.grow hgr ts hf)
    exact hK _ _ (by simpa only [extR] using this)
theorem r_call {σ : Type} {pr : σ → Prop} {val : σ → Value} {new : σ → List Ck} {all : Array Oper} {o : Oper} {rest : List Oper} {d : Nat} {f : FuncId} {xs : List Operand} {tys : Array TypeId} {vs : List Value} (ts : List Nat) (hg : o.guard = none) (hnd : notDefer o = true) (hd : o.dst = some d) (hN : Nat.blt d N = true) (hf : fresh M ts = true)
    [hc : Cal P f] (ho : o.op = .call ⟨.value (.func f), xs.toArray, tys⟩) (hx : evs e xs = some vs) (hS : ∀ w, Mem w0 D M w → Spec P f vs.toArray w pr val Nob new)
    (h : ∀ x, pr x → GR ro n P Q df N w0 D ((d, val x) :: e) (tags ts (new x) ++ M) (.ops all rest :: k)) : GR ro n P Q df N w0 D e M (.ops all (o :: rest) :: k) :=
  r_op hg hnd fun a w hs hm K hK => by
    have hr : (execOp a.eval o).run P w = .ok (.enter f vs.toArray) w := run_call (a := { a with defers := [] }) hc.h ho hs.plain hx
    rw [hr]
    simp only [Oper.uponIn]
    refine ⟨fun h => (by cases h), callsFW ((hS w hm).mono ?_)⟩
    rintro en w' ⟨x, hp, rfl, hgr⟩
    dsimp only
    rw [hd]
    have := h x hp _ w' (hs.put (by simpa [Nat.blt_eq] using hN) (val x)) (hm.grow hgr ts hf)
    exact hK _ _ (by simpa only [extR] using this)
theorem r_end (h : ∀ a w, SatD df N e a → Mem w0 D M w → Q .normal a w) : GR ro n P Q df N w0 D e M [] := fun a w hs hm => by simp only [extR]; exact h a w hs hm
theorem r_ret (h : ∀ a w, SatD df N e a → Mem w0 D M w → Q .ret a w) : GR ro n P Q df N w0 D e M (.code .ret :: k) := fun a w hs hm => by
  simp only [extR]
  exact wpIn_ret (by rw [extR_ret]; exact h a w hs hm)
/-- yield is called: a round of the caller's. -/
theorem r_yield {all : Array Oper} {o : Oper} {rest : List Oper} {d l : Nat} {g : Operand} {xs : List Operand} {tys : Array TypeId} {vs : List Value} (R : Bool → World → Prop) (hg : o.guard = none) (hnd : notDefer o = true) (hd : o.dst = some d) (hN : Nat.blt d N = true)
    (ho : o.op = .call ⟨.value g, xs.toArray, tys⟩) (hgv : ev e g = some (.func (.yield l) #[] #[])) (hx : evs e xs = some vs)
    (hy : ∀ w, Mem w0 D M w → ∃ m, m = n - 1 ∧ YieldAt (FW ro) m P l vs.toArray w (fun en w' => ∃ b, en = .returned (.bool b) ∧ R b w'))
    (h : ∀ b w', R b w' → GR ro n P Q df N w' Nob ((d, .bool b) :: e) [] (.ops all rest :: k)) : GR ro n P Q df N w0 D e M (.ops all (o :: rest) :: k) :=
  r_op hg hnd fun a w hs hm K hK => by
    obtain ⟨m, rfl, fn, tmps, assign, body, hyr, hR⟩ := hy w hm
    have h4 := hs.plain.evals hx
    have h5 : xs.toArray.map a.eval = vs.toArray := by rw [List.map_toArray]; exact congrArg List.toArray h4
    have hr : (execOp a.eval o).run P w = .ok (.round l fn tmps assign body) w := by
      simp only [execOp, ho, resolve, h5, hs.eval hgv, Deferred.ofValue, Sem.run_bind, Sem.run_pure, Result.andThen_ok, invoke]
      simpa using hyr
    rw [hr]
    simp only [Oper.uponIn]
    refine ⟨fun h => (by cases h), hR.mono ?_⟩
    rintro en w' ⟨b, rfl, hb⟩
    dsimp only
    rw [hd]
    have := h b w' hb _ w' (hs.put (by simpa [Nat.blt_eq] using hN) (.bool b)) (Mem.start w')
    exact hK _ _ (by simpa only [extR] using this)

/-- From a walk to the judgement, the world of now taken as the old one. -/
theorem r_from {c : Code} {I : Act → World → Prop} {a : Act} {w : World} (hs : SatD df N e a) (h : GR ro n P Q df N w Nob e [] (.code c :: .inv I :: k)) : c.wpIn (FW ro) n P (Exit.then I (extR ro n P Q k)) a w := by
  rw [extR_inv]
  have := h a w hs (Mem.start w)
  simpa only [extR] using this

theorem r_to {c : Code} {Q' : Exit → Act → World → Prop} {a : Act} {w : World} (hs : SatD df N e a) (hm : Mem w0 D M w) (h : GR ro n P Q df N w0 D e M [.code c]) (hq : ∀ x a w, Q x a w → Q' x a w) : c.wpIn (FW ro) n P Q' a w := by
  have := h a w hs hm
  simp only [extR] at this
  refine Go.wpIn_mono this fun x a w hx => hq x a w ?_
  cases x <;> simpa [extR] using hx

theorem r_go {a : Act} {w : World} (hs : SatD df N e a) (hm : Mem w0 D M w) (h : GR ro n P Q df N w0 D e M k) : extR ro n P Q k .normal a w := h a w hs hm
theorem run_asg {o : Oper} {x : Operand} {ρ : Operand → Value} {v : Value} {w : World} (ho : o.op = .assign x) (hx : ρ x = v) : (execOp ρ o).run P w = .ok (.value v) w := by simp [execOp, ho, hx]

/-- A function's contract from such a walk of its body. -/
theorem enterR {f : FuncId} {g : Func} {c : Code} {l : List Value} {w : World} {R : Ending → World → Prop} (n : Nat) (hf : P.funcs[f]? = some g) (hb : g.body = some c) (hN : Nat.ble l.length g.ntmps = true)
    (h : GR none n P (bodyPostM (FW none) n P g R) [] g.ntmps w Nob (slots 0 l) [] [.code c]) : Calls P f l.toArray w R := by
  refine (callsIn_wide (n := n)).1 (callsIn_of_wp_marks hf hb trivial ?_ rfl)
  have hN' : l.length ≤ g.ntmps := by simpa [Nat.ble_eq] using hN
  have hs : SatD [] g.ntmps (slots 0 l) { tmps := l.toArray ++ Array.replicate (g.ntmps - l.toArray.size) undef, defers := [] } := by
    refine ⟨by simp; omega, rfl, fun i v hi => ?_⟩
    obtain ⟨_, h2⟩ := get_slots l 0 i v hi
    simp only [Nat.sub_zero] at h2
    have hlt : i < l.length := (List.getElem?_eq_some_iff.1 h2).1
    rw [Array.getElem?_append_left (by simpa using hlt)]
    simpa using h2
  have := h _ w hs (Mem.start w)
  simp only [extR] at this
  have h2 : c.wpIn Fence.wide n P (extR none n P (bodyPostM (FW none) n P g R) []) _ w := this
  refine Go.wpIn_mono h2 ?_
  intro x a' w' hx
  cases x <;> simpa [extR, FW_none] using hx
end

/-- A store of a struct or an array as a whole. -/
theorem st_storeL {P : Program} {N : Nat} {w0 : World} {D : Blocks} {e : List (Nat × Value)} {M : List (Nat × Ck)} {o : Oper} (tag : Nat) {t : TypeId} {x y : Operand} {b s : Nat} {L C : List Value} {E : TypeId} [hz : Siz P t s] (ho : o.op = .store t x y) (hx : ev e x = some (.pointer (some ⟨b, 0, none⟩))) (hy : ev e y = some (.agg C.toArray))
    (hM : mget M tag = some (.pt b (.cells L.toArray E (0, 0)))) (hC : C.length = s) (hL : L.length = s) (hv : ∀ u ∈ C, u.oneCell' = true) : St P N w0 D e M o ((tag, .pt b (.cells C.toArray E (0, 0))) :: M) := by
  subst hC
  intro a w hs hm
  have h1 := hm.holds _ _ hM
  simp only [Ck.holds] at h1
  have hst := run_storeCells_at P b 0 E C 0 L.toArray w h1 (by simp; omega) hv
  simp only [Nat.add_zero] at hst
  have e1 : (L.toArray.toList.take 0 ++ C ++ L.toArray.toList.drop (0 + C.length)).toArray = C.toArray := by simp [← hL]
  rw [e1] at hst
  refine ⟨_, ?_, hm.setRow tag hM⟩
  simp [execOp, ho, hs.eval hx, hs.eval hy, Instr.storeAt, Instr.sureAddr, storeVar, run_size hz.h, Value.cells]
  rw [hst]
  rfl
/-- What is known of memory, where all that is known are rows. -/
theorem Mem.own {w0 : World} {D : Blocks} {M : List (Nat × Ck)} {B : Nat} {W W' : World} {row : Option Nat} (hM : ∀ t c, mget M t = some c → ∃ b cs E fz, c = .pt b (.cells cs E fz)) (hB : w0.heap.size ≤ B) (h : Mem w0 D M W) (hg : W.grownBy W' row) (hr : ∀ r, row = some r → B ≤ r ∧ ∃ o : Obj, W.heap[r]? = some o ∧ o.isCells = false) : Mem w0 D M W' := by
  have keepc : ∀ (b : Nat) (cs : Array Value) (E : TypeId) (fz : Nat × Nat), W.heap[b]? = some (.cells cs E fz) → W'.heap[b]? = some (.cells cs E fz) := fun b cs E fz hb =>
    (grownBy_keeps_cells hg (fun r e => (hr r e).2) hb rfl).trans hb
  refine ⟨hg.os.trans h.os, hg.tape.trans h.tape, hg.output.trans h.output, Nat.le_trans h.size hg.size, fun k hk hD => ?_, fun t c ht => ?_, h.stable, fun t c ht j hj => Nat.lt_of_lt_of_le (h.below t c ht j hj) hg.size, h.above, h.apart⟩
  · rw [hg.block k (Nat.lt_of_lt_of_le hk h.size) (fun e => by have := (hr k e.symm).1; omega)]
    exact h.keep k hk hD
  · obtain ⟨b, cs, E, fz, rfl⟩ := hM t c ht
    exact keepc b cs E fz (h.holds t _ ht)
/-- One more block is known. -/
theorem Mem.also {w0 w : World} {D : Blocks} {M : List (Nat × Ck)} (h : Mem w0 D M w) (t b : Nat) (o : Obj) (hb : w.heap[b]? = some o) (hge : w0.heap.size ≤ b) (hno : ∀ s c, mget M s = some c → ¬ c.has b) : Mem w0 D ((t, .pt b o) :: M) w := by
  have key : ∀ s d, mget ((t, Ck.pt b o) :: M) s = some d → (s = t ∧ d = .pt b o) ∨ (s ≠ t ∧ mget M s = some d) := by
    intro s d hs
    rw [mget_cons] at hs
    by_cases hts : t = s
    · rw [if_pos hts] at hs; cases hs; exact .inl ⟨hts.symm, rfl⟩
    · rw [if_neg hts] at hs; exact .inr ⟨fun e => hts e.symm, hs⟩
  refine ⟨h.os, h.tape, h.output, h.size, h.keep, fun s d hs => ?_, fun s d hs => ?_, fun s d hs j hj => ?_, fun s d hs j hj => ?_, fun s d s' d' hs hs' hne => ?_⟩
  · rcases key s d hs with ⟨_, rfl⟩ | ⟨_, h1⟩
    · exact hb
    · exact h.holds s d h1
  · rcases key s d hs with ⟨_, rfl⟩ | ⟨_, h1⟩
    · trivial
    · exact h.stable s d h1
  · rcases key s d hs with ⟨_, rfl⟩ | ⟨_, h1⟩
    · have : j = b := hj; rw [this]; exact lt_of_some hb
    · exact h.below s d h1 j hj
  · rcases key s d hs with ⟨_, rfl⟩ | ⟨_, h1⟩
    · have : j = b := hj; rw [this]; exact .inl hge
    · exact h.above s d h1 j hj
  · rcases key s d hs with ⟨h1, rfl⟩ | ⟨_, h1⟩ <;> rcases key s' d' hs' with ⟨h2, rfl⟩ | ⟨_, h2⟩
    · exact absurd (h1.trans h2.symm) hne
    · intro j hj hd; have : j = b := hj; rw [this] at hd; exact hno s' d' h2 hd
    · intro j hj hd; have : j = b := hd; rw [this] at hj; exact hno s d h1 hj
    · exact h.apart s d s' d' h1 h2 hne
end Go.Sx

/-
  Loops and meetings of ways whose state has several parts, for the judgement of Sx. No condition: they speak of any program.
-/
import Derived.Test.YteblmnpklcdnpaaSxBy
set_option linter.unusedVariables false
set_option linter.unusedSimpArgs false
namespace Go.Sx
open Go
section
variable {P : Program} {fn : Func} {R : Ending → World → Prop} {N : Nat} {w0 : World} {D : Blocks} {e : List (Nat × Value)} {M : List (Nat × Ck)} {k : List It}

theorem g_inv {c : Code} {p q : Act → World → Prop} (hpq : ∀ a w, p a w → q a w) (h : G P fn R N w0 D e M (.code c :: .inv p :: k)) : G P fn R N w0 D e M (.code c :: .inv q :: k) := by
  intro a w hs hm
  have := h a w hs hm
  simp only [ext] at this ⊢
  rw [← ext_inv] at this ⊢
  refine wp_mono this ?_
  intro x a' w' hx
  cases x with
  | normal => exact hpq _ _ hx
  | _ => exact hx


theorem g_loop2 {A0 A1 : Type} (E : A0 → A1 → List (Nat × Value)) (X : A0 → A1 → List (Nat × Ck)) (C : A0 → A1 → Prop) (m : A0 → A1 → Nat) (z0 : A0) (z1 : A1) {c : Code}
    (hE : SubE e (E z0 z1)) (hX : SubM M (X z0 z1)) (h0 : C z0 z1)
    (hr : ∀ s0 s1, C s0 s1 → G P fn R N w0 D (E s0 s1) (X s0 s1) (.code c :: .inv (fun a w => ∃ s0' s1', C s0' s1' ∧ m s0' s1' < m s0 s1 ∧ Sat N (E s0' s1') a ∧ Mem w0 D (X s0' s1') w) :: k)) :
    G P fn R N w0 D e M (.code (.loop c) :: k) :=
  g_loop (σ := A0 × A1) (fun s => E s.1 s.2) (fun s => X s.1 s.2) (fun s => C s.1 s.2) (fun s => m s.1 s.2) (z0, z1) hE hX h0
    (fun s hc => g_inv (fun a w ⟨s0', s1', h1, h2, h3, h4⟩ => ⟨(s0', s1'), h1, h2, h3, h4⟩) (hr s.1 s.2 hc))
theorem g_round2 {A0 A1 : Type} {E : A0 → A1 → List (Nat × Value)} {X : A0 → A1 → List (Nat × Ck)} {C : A0 → A1 → Prop} {m : A0 → A1 → Nat} {q : Nat} (z0 : A0) (z1 : A1) (hc : C z0 z1) (hlt : m z0 z1 < q)
    (hE : SubE e (E z0 z1)) (hX : SubM M (X z0 z1)) :
    G P fn R N w0 D e M (.inv (fun a w => ∃ s0' s1', C s0' s1' ∧ m s0' s1' < q ∧ Sat N (E s0' s1') a ∧ Mem w0 D (X s0' s1') w) :: k) :=
  fun a w hs hm => by simp only [ext]; exact ⟨z0, z1, hc, hlt, hs.sub hE.all, hm.sub hX.all⟩
theorem g_join2 {A0 A1 : Type} (E : A0 → A1 → List (Nat × Value)) (X : A0 → A1 → List (Nat × Ck)) (C : A0 → A1 → Prop) {c : Code}
    (h1 : G P fn R N w0 D e M (.code c :: .inv (fun a w => ∃ s0' s1', C s0' s1' ∧ Sat N (E s0' s1') a ∧ Mem w0 D (X s0' s1') w) :: k))
    (h2 : ∀ s0 s1, C s0 s1 → G P fn R N w0 D (E s0 s1) (X s0 s1) k) : G P fn R N w0 D e M (.code c :: k) :=
  g_join (σ := A0 × A1) (fun s => E s.1 s.2) (fun s => X s.1 s.2) (fun s => C s.1 s.2)
    (g_inv (fun a w ⟨s0', s1', h1, h3, h4⟩ => ⟨(s0', s1'), h1, h3, h4⟩) h1) (fun s hc => h2 s.1 s.2 hc)
theorem g_meet2 {A0 A1 : Type} {E : A0 → A1 → List (Nat × Value)} {X : A0 → A1 → List (Nat × Ck)} {C : A0 → A1 → Prop} (z0 : A0) (z1 : A1) (hc : C z0 z1)
    (hE : SubE e (E z0 z1)) (hX : SubM M (X z0 z1)) :
    G P fn R N w0 D e M (.inv (fun a w => ∃ s0' s1', C s0' s1' ∧ Sat N (E s0' s1') a ∧ Mem w0 D (X s0' s1') w) :: k) :=
  fun a w hs hm => by simp only [ext]; exact ⟨z0, z1, hc, hs.sub hE.all, hm.sub hX.all⟩

theorem g_loop3 {A0 A1 A2 : Type} (E : A0 → A1 → A2 → List (Nat × Value)) (X : A0 → A1 → A2 → List (Nat × Ck)) (C : A0 → A1 → A2 → Prop) (m : A0 → A1 → A2 → Nat) (z0 : A0) (z1 : A1) (z2 : A2) {c : Code}
    (hE : SubE e (E z0 z1 z2)) (hX : SubM M (X z0 z1 z2)) (h0 : C z0 z1 z2)
    (hr : ∀ s0 s1 s2, C s0 s1 s2 → G P fn R N w0 D (E s0 s1 s2) (X s0 s1 s2) (.code c :: .inv (fun a w => ∃ s0' s1' s2', C s0' s1' s2' ∧ m s0' s1' s2' < m s0 s1 s2 ∧ Sat N (E s0' s1' s2') a ∧ Mem w0 D (X s0' s1' s2') w) :: k)) :
    G P fn R N w0 D e M (.code (.loop c) :: k) :=
  g_loop (σ := A0 × A1 × A2) (fun s => E s.1 s.2.1 s.2.2) (fun s => X s.1 s.2.1 s.2.2) (fun s => C s.1 s.2.1 s.2.2) (fun s => m s.1 s.2.1 s.2.2) (z0, z1, z2) hE hX h0
    (fun s hc => g_inv (fun a w ⟨s0', s1', s2', h1, h2, h3, h4⟩ => ⟨(s0', s1', s2'), h1, h2, h3, h4⟩) (hr s.1 s.2.1 s.2.2 hc))
theorem g_round3 {A0 A1 A2 : Type} {E : A0 → A1 → A2 → List (Nat × Value)} {X : A0 → A1 → A2 → List (Nat × Ck)} {C : A0 → A1 → A2 → Prop} {m : A0 → A1 → A2 → Nat} {q : Nat} (z0 : A0) (z1 : A1) (z2 : A2) (hc : C z0 z1 z2) (hlt : m z0 z1 z2 < q)
    (hE : SubE e (E z0 z1 z2)) (hX : SubM M (X z0 z1 z2)) :
    G P fn R N w0 D e M (.inv (fun a w => ∃ s0' s1' s2', C s0' s1' s2' ∧ m s0' s1' s2' < q ∧ Sat N (E s0' s1' s2') a ∧ Mem w0 D (X s0' s1' s2') w) :: k) :=
  fun a w hs hm => by simp only [ext]; exact ⟨z0, z1, z2, hc, hlt, hs.sub hE.all, hm.sub hX.all⟩
theorem g_join3 {A0 A1 A2 : Type} (E : A0 → A1 → A2 → List (Nat × Value)) (X : A0 → A1 → A2 → List (Nat × Ck)) (C : A0 → A1 → A2 → Prop) {c : Code}
    (h1 : G P fn R N w0 D e M (.code c :: .inv (fun a w => ∃ s0' s1' s2', C s0' s1' s2' ∧ Sat N (E s0' s1' s2') a ∧ Mem w0 D (X s0' s1' s2') w) :: k))
    (h2 : ∀ s0 s1 s2, C s0 s1 s2 → G P fn R N w0 D (E s0 s1 s2) (X s0 s1 s2) k) : G P fn R N w0 D e M (.code c :: k) :=
  g_join (σ := A0 × A1 × A2) (fun s => E s.1 s.2.1 s.2.2) (fun s => X s.1 s.2.1 s.2.2) (fun s => C s.1 s.2.1 s.2.2)
    (g_inv (fun a w ⟨s0', s1', s2', h1, h3, h4⟩ => ⟨(s0', s1', s2'), h1, h3, h4⟩) h1) (fun s hc => h2 s.1 s.2.1 s.2.2 hc)
theorem g_meet3 {A0 A1 A2 : Type} {E : A0 → A1 → A2 → List (Nat × Value)} {X : A0 → A1 → A2 → List (Nat × Ck)} {C : A0 → A1 → A2 → Prop} (z0 : A0) (z1 : A1) (z2 : A2) (hc : C z0 z1 z2)
    (hE : SubE e (E z0 z1 z2)) (hX : SubM M (X z0 z1 z2)) :
    G P fn R N w0 D e M (.inv (fun a w => ∃ s0' s1' s2', C s0' s1' s2' ∧ Sat N (E s0' s1' s2') a ∧ Mem w0 D (X s0' s1' s2') w) :: k) :=
  fun a w hs hm => by simp only [ext]; exact ⟨z0, z1, z2, hc, hs.sub hE.all, hm.sub hX.all⟩

theorem g_loop4 {A0 A1 A2 A3 : Type} (E : A0 → A1 → A2 → A3 → List (Nat × Value)) (X : A0 → A1 → A2 → A3 → List (Nat × Ck)) (C : A0 → A1 → A2 → A3 → Prop) (m : A0 → A1 → A2 → A3 → Nat) (z0 : A0) (z1 : A1) (z2 : A2) (z3 : A3) {c : Code}
    (hE : SubE e (E z0 z1 z2 z3)) (hX : SubM M (X z0 z1 z2 z3)) (h0 : C z0 z1 z2 z3)
    (hr : ∀ s0 s1 s2 s3, C s0 s1 s2 s3 → G P fn R N w0 D (E s0 s1 s2 s3) (X s0 s1 s2 s3) (.code c :: .inv (fun a w => ∃ s0' s1' s2' s3', C s0' s1' s2' s3' ∧ m s0' s1' s2' s3' < m s0 s1 s2 s3 ∧ Sat N (E s0' s1' s2' s3') a ∧ Mem w0 D (X s0' s1' s2' s3') w) :: k)) :
    G P fn R N w0 D e M (.code (.loop c) :: k) :=
  g_loop (σ := A0 × A1 × A2 × A3) (fun s => E s.1 s.2.1 s.2.2.1 s.2.2.2) (fun s => X s.1 s.2.1 s.2.2.1 s.2.2.2) (fun s => C s.1 s.2.1 s.2.2.1 s.2.2.2) (fun s => m s.1 s.2.1 s.2.2.1 s.2.2.2) (z0, z1, z2, z3) hE hX h0
    (fun s hc => g_inv (fun a w ⟨s0', s1', s2', s3', h1, h2, h3, h4⟩ => ⟨(s0', s1', s2', s3'), h1, h2, h3, h4⟩) (hr s.1 s.2.1 s.2.2.1 s.2.2.2 hc))
theorem g_round4 {A0 A1 A2 A3 : Type} {E : A0 → A1 → A2 → A3 → List (Nat × Value)} {X : A0 → A1 → A2 → A3 → List (Nat × Ck)} {C : A0 → A1 → A2 → A3 → Prop} {m : A0 → A1 → A2 → A3 → Nat} {q : Nat} (z0 : A0) (z1 : A1) (z2 : A2) (z3 : A3) (hc : C z0 z1 z2 z3) (hlt : m z0 z1 z2 z3 < q)
    (hE : SubE e (E z0 z1 z2 z3)) (hX : SubM M (X z0 z1 z2 z3)) :
    G P fn R N w0 D e M (.inv (fun a w => ∃ s0' s1' s2' s3', C s0' s1' s2' s3' ∧ m s0' s1' s2' s3' < q ∧ Sat N (E s0' s1' s2' s3') a ∧ Mem w0 D (X s0' s1' s2' s3') w) :: k) :=
  fun a w hs hm => by simp only [ext]; exact ⟨z0, z1, z2, z3, hc, hlt, hs.sub hE.all, hm.sub hX.all⟩
theorem g_join4 {A0 A1 A2 A3 : Type} (E : A0 → A1 → A2 → A3 → List (Nat × Value)) (X : A0 → A1 → A2 → A3 → List (Nat × Ck)) (C : A0 → A1 → A2 → A3 → Prop) {c : Code}
    (h1 : G P fn R N w0 D e M (.code c :: .inv (fun a w => ∃ s0' s1' s2' s3', C s0' s1' s2' s3' ∧ Sat N (E s0' s1' s2' s3') a ∧ Mem w0 D (X s0' s1' s2' s3') w) :: k))
    (h2 : ∀ s0 s1 s2 s3, C s0 s1 s2 s3 → G P fn R N w0 D (E s0 s1 s2 s3) (X s0 s1 s2 s3) k) : G P fn R N w0 D e M (.code c :: k) :=
  g_join (σ := A0 × A1 × A2 × A3) (fun s => E s.1 s.2.1 s.2.2.1 s.2.2.2) (fun s => X s.1 s.2.1 s.2.2.1 s.2.2.2) (fun s => C s.1 s.2.1 s.2.2.1 s.2.2.2)
    (g_inv (fun a w ⟨s0', s1', s2', s3', h1, h3, h4⟩ => ⟨(s0', s1', s2', s3'), h1, h3, h4⟩) h1) (fun s hc => h2 s.1 s.2.1 s.2.2.1 s.2.2.2 hc)
theorem g_meet4 {A0 A1 A2 A3 : Type} {E : A0 → A1 → A2 → A3 → List (Nat × Value)} {X : A0 → A1 → A2 → A3 → List (Nat × Ck)} {C : A0 → A1 → A2 → A3 → Prop} (z0 : A0) (z1 : A1) (z2 : A2) (z3 : A3) (hc : C z0 z1 z2 z3)
    (hE : SubE e (E z0 z1 z2 z3)) (hX : SubM M (X z0 z1 z2 z3)) :
    G P fn R N w0 D e M (.inv (fun a w => ∃ s0' s1' s2' s3', C s0' s1' s2' s3' ∧ Sat N (E s0' s1' s2' s3') a ∧ Mem w0 D (X s0' s1' s2' s3') w) :: k) :=
  fun a w hs hm => by simp only [ext]; exact ⟨z0, z1, z2, z3, hc, hs.sub hE.all, hm.sub hX.all⟩

theorem g_loop5 {A0 A1 A2 A3 A4 : Type} (E : A0 → A1 → A2 → A3 → A4 → List (Nat × Value)) (X : A0 → A1 → A2 → A3 → A4 → List (Nat × Ck)) (C : A0 → A1 → A2 → A3 → A4 → Prop) (m : A0 → A1 → A2 → A3 → A4 → Nat) (z0 : A0) (z1 : A1) (z2 : A2) (z3 : A3) (z4 : A4) {c : Code}
    (hE : SubE e (E z0 z1 z2 z3 z4)) (hX : SubM M (X z0 z1 z2 z3 z4)) (h0 : C z0 z1 z2 z3 z4)
    (hr : ∀ s0 s1 s2 s3 s4, C s0 s1 s2 s3 s4 → G P fn R N w0 D (E s0 s1 s2 s3 s4) (X s0 s1 s2 s3 s4) (.code c :: .inv (fun a w => ∃ s0' s1' s2' s3' s4', C s0' s1' s2' s3' s4' ∧ m s0' s1' s2' s3' s4' < m s0 s1 s2 s3 s4 ∧ Sat N (E s0' s1' s2' s3' s4') a ∧ Mem w0 D (X s0' s1' s2' s3' s4') w) :: k)) :
    G P fn R N w0 D e M (.code (.loop c) :: k) :=
  g_loop (σ := A0 × A1 × A2 × A3 × A4) (fun s => E s.1 s.2.1 s.2.2.1 s.2.2.2.1 s.2.2.2.2) (fun s => X s.1 s.2.1 s.2.2.1 s.2.2.2.1 s.2.2.2.2) (fun s => C s.1 s.2.1 s.2.2.1 s.2.2.2.1 s.2.2.2.2) (fun s => m s.1 s.2.1 s.2.2.1 s.2.2.2.1 s.2.2.2.2) (z0, z1, z2, z3, z4) hE hX h0
    (fun s hc => g_inv (fun a w ⟨s0', s1', s2', s3', s4', h1, h2, h3, h4⟩ => ⟨(s0', s1', s2', s3', s4'), h1, h2, h3, h4⟩) (hr s.1 s.2.1 s.2.2.1 s.2.2.2.1 s.2.2.2.2 hc))
theorem g_round5 {A0 A1 A2 A3 A4 : Type} {E : A0 → A1 → A2 → A3 → A4 → List (Nat × Value)} {X : A0 → A1 → A2 → A3 → A4 → List (Nat × Ck)} {C : A0 → A1 → A2 → A3 → A4 → Prop} {m : A0 → A1 → A2 → A3 → A4 → Nat} {q : Nat} (z0 : A0) (z1 : A1) (z2 : A2) (z3 : A3) (z4 : A4) (hc : C z0 z1 z2 z3 z4) (hlt : m z0 z1 z2 z3 z4 < q)
    (hE : SubE e (E z0 z1 z2 z3 z4)) (hX : SubM M (X z0 z1 z2 z3 z4)) :
    G P fn R N w0 D e M (.inv (fun a w => ∃ s0' s1' s2' s3' s4', C s0' s1' s2' s3' s4' ∧ m s0' s1' s2' s3' s4' < q ∧ Sat N (E s0' s1' s2' s3' s4') a ∧ Mem w0 D (X s0' s1' s2' s3' s4') w) :: k) :=
  fun a w hs hm => by simp only [ext]; exact ⟨z0, z1, z2, z3, z4, hc, hlt, hs.sub hE.all, hm.sub hX.all⟩
theorem g_join5 {A0 A1 A2 A3 A4 : Type} (E : A0 → A1 → A2 → A3 → A4 → List (Nat × Value)) (X : A0 → A1 → A2 → A3 → A4 → List (Nat × Ck)) (C : A0 → A1 → A2 → A3 → A4 → Prop) {c : Code}
    (h1 : G P fn R N w0 D e M (.code c :: .inv (fun a w => ∃ s0' s1' s2' s3' s4', C s0' s1' s2' s3' s4' ∧ Sat N (E s0' s1' s2' s3' s4') a ∧ Mem w0 D (X s0' s1' s2' s3' s4') w) :: k))
    (h2 : ∀ s0 s1 s2 s3 s4, C s0 s1 s2 s3 s4 → G P fn R N w0 D (E s0 s1 s2 s3 s4) (X s0 s1 s2 s3 s4) k) : G P fn R N w0 D e M (.code c :: k) :=
  g_join (σ := A0 × A1 × A2 × A3 × A4) (fun s => E s.1 s.2.1 s.2.2.1 s.2.2.2.1 s.2.2.2.2) (fun s => X s.1 s.2.1 s.2.2.1 s.2.2.2.1 s.2.2.2.2) (fun s => C s.1 s.2.1 s.2.2.1 s.2.2.2.1 s.2.2.2.2)
    (g_inv (fun a w ⟨s0', s1', s2', s3', s4', h1, h3, h4⟩ => ⟨(s0', s1', s2', s3', s4'), h1, h3, h4⟩) h1) (fun s hc => h2 s.1 s.2.1 s.2.2.1 s.2.2.2.1 s.2.2.2.2 hc)
theorem g_meet5 {A0 A1 A2 A3 A4 : Type} {E : A0 → A1 → A2 → A3 → A4 → List (Nat × Value)} {X : A0 → A1 → A2 → A3 → A4 → List (Nat × Ck)} {C : A0 → A1 → A2 → A3 → A4 → Prop} (z0 : A0) (z1 : A1) (z2 : A2) (z3 : A3) (z4 : A4) (hc : C z0 z1 z2 z3 z4)
    (hE : SubE e (E z0 z1 z2 z3 z4)) (hX : SubM M (X z0 z1 z2 z3 z4)) :
    G P fn R N w0 D e M (.inv (fun a w => ∃ s0' s1' s2' s3' s4', C s0' s1' s2' s3' s4' ∧ Sat N (E s0' s1' s2' s3' s4') a ∧ Mem w0 D (X s0' s1' s2' s3' s4') w) :: k) :=
  fun a w hs hm => by simp only [ext]; exact ⟨z0, z1, z2, z3, z4, hc, hs.sub hE.all, hm.sub hX.all⟩

theorem g_loop6 {A0 A1 A2 A3 A4 A5 : Type} (E : A0 → A1 → A2 → A3 → A4 → A5 → List (Nat × Value)) (X : A0 → A1 → A2 → A3 → A4 → A5 → List (Nat × Ck)) (C : A0 → A1 → A2 → A3 → A4 → A5 → Prop) (m : A0 → A1 → A2 → A3 → A4 → A5 → Nat) (z0 : A0) (z1 : A1) (z2 : A2) (z3 : A3) (z4 : A4) (z5 : A5) {c : Code}
    (hE : SubE e (E z0 z1 z2 z3 z4 z5)) (hX : SubM M (X z0 z1 z2 z3 z4 z5)) (h0 : C z0 z1 z2 z3 z4 z5)
    (hr : ∀ s0 s1 s2 s3 s4 s5, C s0 s1 s2 s3 s4 s5 → G P fn R N w0 D (E s0 s1 s2 s3 s4 s5) (X s0 s1 s2 s3 s4 s5) (.code c :: .inv (fun a w => ∃ s0' s1' s2' s3' s4' s5', C s0' s1' s2' s3' s4' s5' ∧ m s0' s1' s2' s3' s4' s5' < m s0 s1 s2 s3 s4 s5 ∧ Sat N (E s0' s1' s2' s3' s4' s5') a ∧ Mem w0 D (X s0' s1' s2' s3' s4' s5') w) :: k)) :
    G P fn R N w0 D e M (.code (.loop c) :: k) :=
  g_loop (σ := A0 × A1 × A2 × A3 × A4 × A5) (fun s => E s.1 s.2.1 s.2.2.1 s.2.2.2.1 s.2.2.2.2.1 s.2.2.2.2.2) (fun s => X s.1 s.2.1 s.2.2.1 s.2.2.2.1 s.2.2.2.2.1 s.2.2.2.2.2) (fun s => C s.1 s.2.1 s.2.2.1 s.2.2.2.1 s.2.2.2.2.1 s.2.2.2.2.2) (fun s => m s.1 s.2.1 s.2.2.1 s.2.2.2.1 s.2.2.2.2.1 s.2.2.2.2.2) (z0, z1, z2, z3, z4, z5) hE hX h0
    (fun s hc => g_inv (fun a w ⟨s0', s1', s2', s3', s4', s5', h1, h2, h3, h4⟩ => ⟨(s0', s1', s2', s3', s4', s5'), h1, h2, h3, h4⟩) (hr s.1 s.2.1 s.2.2.1 s.2.2.2.1 s.2.2.2.2.1 s.2.2.2.2.2 hc))
theorem g_round6 {A0 A1 A2 A3 A4 A5 : Type} {E : A0 → A1 → A2 → A3 → A4 → A5 → List (Nat × Value)} {X : A0 → A1 → A2 → A3 → A4 → A5 → List (Nat × Ck)} {C : A0 → A1 → A2 → A3 → A4 → A5 → Prop} {m : A0 → A1 → A2 → A3 → A4 → A5 → Nat} {q : Nat} (z0 : A0) (z1 : A1) (z2 : A2) (z3 : A3) (z4 : A4) (z5 : A5) (hc : C z0 z1 z2 z3 z4 z5) (hlt : m z0 z1 z2 z3 z4 z5 < q)
    (hE : SubE e (E z0 z1 z2 z3 z4 z5)) (hX : SubM M (X z0 z1 z2 z3 z4 z5)) :
    G P fn R N w0 D e M (.inv (fun a w => ∃ s0' s1' s2' s3' s4' s5', C s0' s1' s2' s3' s4' s5' ∧ m s0' s1' s2' s3' s4' s5' < q ∧ Sat N (E s0' s1' s2' s3' s4' s5') a ∧ Mem w0 D (X s0' s1' s2' s3' s4' s5') w) :: k) :=
  fun a w hs hm => by simp only [ext]; exact ⟨z0, z1, z2, z3, z4, z5, hc, hlt, hs.sub hE.all, hm.sub hX.all⟩
theorem g_join6 {A0 A1 A2 A3 A4 A5 : Type} (E : A0 → A1 → A2 → A3 → A4 → A5 → List (Nat × Value)) (X : A0 → A1 → A2 → A3 → A4 → A5 → List (Nat × Ck)) (C : A0 → A1 → A2 → A3 → A4 → A5 → Prop) {c : Code}
    (h1 : G P fn R N w0 D e M (.code c :: .inv (fun a w => ∃ s0' s1' s2' s3' s4' s5', C s0' s1' s2' s3' s4' s5' ∧ Sat N (E s0' s1' s2' s3' s4' s5') a ∧ Mem w0 D (X s0' s1' s2' s3' s4' s5') w) :: k))
    (h2 : ∀ s0 s1 s2 s3 s4 s5, C s0 s1 s2 s3 s4 s5 → G P fn R N w0 D (E s0 s1 s2 s3 s4 s5) (X s0 s1 s2 s3 s4 s5) k) : G P fn R N w0 D e M (.code c :: k) :=
  g_join (σ := A0 × A1 × A2 × A3 × A4 × A5) (fun s => E s.1 s.2.1 s.2.2.1 s.2.2.2.1 s.2.2.2.2.1 s.2.2.2.2.2) (fun s => X s.1 s.2.1 s.2.2.1 s.2.2.2.1 s.2.2.2.2.1 s.2.2.2.2.2) (fun s => C s.1 s.2.1 s.2.2.1 s.2.2.2.1 s.2.2.2.2.1 s.2.2.2.2.2)
    (g_inv (fun a w ⟨s0', s1', s2', s3', s4', s5', h1, h3, h4⟩ => ⟨(s0', s1', s2', s3', s4', s5'), h1, h3, h4⟩) h1) (fun s hc => h2 s.1 s.2.1 s.2.2.1 s.2.2.2.1 s.2.2.2.2.1 s.2.2.2.2.2 hc)
theorem g_meet6 {A0 A1 A2 A3 A4 A5 : Type} {E : A0 → A1 → A2 → A3 → A4 → A5 → List (Nat × Value)} {X : A0 → A1 → A2 → A3 → A4 → A5 → List (Nat × Ck)} {C : A0 → A1 → A2 → A3 → A4 → A5 → Prop} (z0 : A0) (z1 : A1) (z2 : A2) (z3 : A3) (z4 : A4) (z5 : A5) (hc : C z0 z1 z2 z3 z4 z5)
    (hE : SubE e (E z0 z1 z2 z3 z4 z5)) (hX : SubM M (X z0 z1 z2 z3 z4 z5)) :
    G P fn R N w0 D e M (.inv (fun a w => ∃ s0' s1' s2' s3' s4' s5', C s0' s1' s2' s3' s4' s5' ∧ Sat N (E s0' s1' s2' s3' s4' s5') a ∧ Mem w0 D (X s0' s1' s2' s3' s4' s5') w) :: k) :=
  fun a w hs hm => by simp only [ext]; exact ⟨z0, z1, z2, z3, z4, z5, hc, hs.sub hE.all, hm.sub hX.all⟩

theorem g_loop7 {A0 A1 A2 A3 A4 A5 A6 : Type} (E : A0 → A1 → A2 → A3 → A4 → A5 → A6 → List (Nat × Value)) (X : A0 → A1 → A2 → A3 → A4 → A5 → A6 → List (Nat × Ck)) (C : A0 → A1 → A2 → A3 → A4 → A5 → A6 → Prop) (m : A0 → A1 → A2 → A3 → A4 → A5 → A6 → Nat) (z0 : A0) (z1 : A1) (z2 : A2) (z3 : A3) (z4 : A4) (z5 : A5) (z6 : A6) {c : Code}
    (hE : SubE e (E z0 z1 z2 z3 z4 z5 z6)) (hX : SubM M (X z0 z1 z2 z3 z4 z5 z6)) (h0 : C z0 z1 z2 z3 z4 z5 z6)
    (hr : ∀ s0 s1 s2 s3 s4 s5 s6, C s0 s1 s2 s3 s4 s5 s6 → G P fn R N w0 D (E s0 s1 s2 s3 s4 s5 s6) (X s0 s1 s2 s3 s4 s5 s6) (.code c :: .inv (fun a w => ∃ s0' s1' s2' s3' s4' s5' s6', C s0' s1' s2' s3' s4' s5' s6' ∧ m s0' s1' s2' s3' s4' s5' s6' < m s0 s1 s2 s3 s4 s5 s6 ∧ Sat N (E s0' s1' s2' s3' s4' s5' s6') a ∧ Mem w0 D (X s0' s1' s2' s3' s4' s5' s6') w) :: k)) :
    G P fn R N w0 D e M (.code (.loop c) :: k) :=
  g_loop (σ := A0 × A1 × A2 × A3 × A4 × A5 × A6) (fun s => E s.1 s.2.1 s.2.2.1 s.2.2.2.1 s.2.2.2.2.1 s.2.2.2.2.2.1 s.2.2.2.2.2.2) (fun s => X s.1 s.2.1 s.2.2.1 s.2.2.2.1 s.2.2.2.2.1 s.2.2.2.2.2.1 s.2.2.2.2.2.2) (fun s => C s.1 s.2.1 s.2.2.1 s.2.2.2.1 s.2.2.2.2.1 s.2.2.2.2.2.1 s.2.2.2.2.2.2) (fun s => m s.1 s.2.1 s.2.2.1 s.2.2.2.1 s.2.2.2.2.1 s.2.2.2.2.2.1 s.2.2.2.2.2.2) (z0, z1, z2, z3, z4, z5, z6) hE hX h0
    (fun s hc => g_inv (fun a w ⟨s0', s1', s2', s3', s4', s5', s6', h1, h2, h3, h4⟩ => ⟨(s0', s1', s2', s3', s4', s5', s6'), h1, h2, h3, h4⟩) (hr s.1 s.2.1 s.2.2.1 s.2.2.2.1 s.2.2.2.2.1 s.2.2.2.2.2.1 s.2.2.2.2.2.2 hc))
theorem g_round7 {A0 A1 A2 A3 A4 A5 A6 : Type} {E : A0 → A1 → A2 → A3 → A4 → A5 → A6 → List (Nat × Value)} {X : A0 → A1 → A2 → A3 → A4 → A5 → A6 → List (Nat × Ck)} {C : A0 → A1 → A2 → A3 → A4 → A5 → A6 → Prop} {m : A0 → A1 → A2 → A3 → A4 → A5 → A6 → Nat} {q : Nat} (z0 : A0) (z1 : A1) (z2 : A2) (z3 : A3) (z4 : A4) (z5 : A5) (z6 : A6) (hc : C z0 z1 z2 z3 z4 z5 z6) (hlt : m z0 z1 z2 z3 z4 z5 z6 < q)
    (hE : SubE e (E z0 z1 z2 z3 z4 z5 z6)) (hX : SubM M (X z0 z1 z2 z3 z4 z5 z6)) :
    G P fn R N w0 D e M (.inv (fun a w => ∃ s0' s1' s2' s3' s4' s5' s6', C s0' s1' s2' s3' s4' s5' s6' ∧ m s0' s1' s2' s3' s4' s5' s6' < q ∧ Sat N (E s0' s1' s2' s3' s4' s5' s6') a ∧ Mem w0 D (X s0' s1' s2' s3' s4' s5' s6') w) :: k) :=
  fun a w hs hm => by simp only [ext]; exact ⟨z0, z1, z2, z3, z4, z5, z6, hc, hlt, hs.sub hE.all, hm.sub hX.all⟩
theorem g_join7 {A0 A1 A2 A3 A4 A5 A6 : Type} (E : A0 → A1 → A2 → A3 → A4 → A5 → A6 → List (Nat × Value)) (X : A0 → A1 → A2 → A3 → A4 → A5 → A6 → List (Nat × Ck)) (C : A0 → A1 → A2 → A3 → A4 → A5 → A6 → Prop) {c : Code}
    (h1 : G P fn R N w0 D e M (.code c :: .inv (fun a w => ∃ s0' s1' s2' s3' s4' s5' s6', C s0' s1' s2' s3' s4' s5' s6' ∧ Sat N (E s0' s1' s2' s3' s4' s5' s6') a ∧ Mem w0 D (X s0' s1' s2' s3' s4' s5' s6') w) :: k))
    (h2 : ∀ s0 s1 s2 s3 s4 s5 s6, C s0 s1 s2 s3 s4 s5 s6 → G P fn R N w0 D (E s0 s1 s2 s3 s4 s5 s6) (X s0 s1 s2 s3 s4 s5 s6) k) : G P fn R N w0 D e M (.code c :: k) :=
  g_join (σ := A0 × A1 × A2 × A3 × A4 × A5 × A6) (fun s => E s.1 s.2.1 s.2.2.1 s.2.2.2.1 s.2.2.2.2.1 s.2.2.2.2.2.1 s.2.2.2.2.2.2) (fun s => X s.1 s.2.1 s.2.2.1 s.2.2.2.1 s.2.2.2.2.1 s.2.2.2.2.2.1 s.2.2.2.2.2.2) (fun s => C s.1 s.2.1 s.2.2.1 s.2.2.2.1 s.2.2.2.2.1 s.2.2.2.2.2.1 s.2.2.2.2.2.2)
    (g_inv (fun a w ⟨s0', s1', s2', s3', s4', s5', s6', h1, h3, h4⟩ => ⟨(s0', s1', s2', s3', s4', s5', s6'), h1, h3, h4⟩) h1) (fun s hc => h2 s.1 s.2.1 s.2.2.1 s.2.2.2.1 s.2.2.2.2.1 s.2.2.2.2.2.1 s.2.2.2.2.2.2 hc)
theorem g_meet7 {A0 A1 A2 A3 A4 A5 A6 : Type} {E : A0 → A1 → A2 → A3 → A4 → A5 → A6 → List (Nat × Value)} {X : A0 → A1 → A2 → A3 → A4 → A5 → A6 → List (Nat × Ck)} {C : A0 → A1 → A2 → A3 → A4 → A5 → A6 → Prop} (z0 : A0) (z1 : A1) (z2 : A2) (z3 : A3) (z4 : A4) (z5 : A5) (z6 : A6) (hc : C z0 z1 z2 z3 z4 z5 z6)
    (hE : SubE e (E z0 z1 z2 z3 z4 z5 z6)) (hX : SubM M (X z0 z1 z2 z3 z4 z5 z6)) :
    G P fn R N w0 D e M (.inv (fun a w => ∃ s0' s1' s2' s3' s4' s5' s6', C s0' s1' s2' s3' s4' s5' s6' ∧ Sat N (E s0' s1' s2' s3' s4' s5' s6') a ∧ Mem w0 D (X s0' s1' s2' s3' s4' s5' s6') w) :: k) :=
  fun a w hs hm => by simp only [ext]; exact ⟨z0, z1, z2, z3, z4, z5, z6, hc, hs.sub hE.all, hm.sub hX.all⟩
end
end Go.Sx

import Derived.KernelRfl
set_option linter.unusedVariables false
set_option linter.unusedSimpArgs false
/-
  Identities of polynomials by computation, over the whole numbers and over the field of p elements. No condition.
-/
namespace Go.Sx

/-- Terms of a ring. -/
inductive Ex where
  | v (i : Nat)
  | c (z : Int)
  | add (a b : Ex)
  | sub (a b : Ex)
  | mul (a b : Ex)
instance : Add Ex := ⟨Ex.add⟩
instance : Sub Ex := ⟨Ex.sub⟩
instance : Mul Ex := ⟨Ex.mul⟩
instance (n : Nat) : OfNat Ex n := ⟨Ex.c n⟩
/-- What a term comes to, over whole numbers. -/
def Ex.val (ρ : Nat → Int) : Ex → Int
  | .v i => ρ i
  | .c z => z
  | .add a b => a.val ρ + b.val ρ
  | .sub a b => a.val ρ - b.val ρ
  | .mul a b => a.val ρ * b.val ρ
/-- A polynomial: monomials (exponents) with their coefficients, in falling order. -/
abbrev Pol := List (List Nat × Int)
def monV (ρ : Nat → Int) : Nat → List Nat → Int
  | _, [] => 1
  | i, e :: r => ρ i ^ e * monV ρ (i + 1) r
def polV (ρ : Nat → Int) : Pol → Int
  | [] => 0
  | (m, z) :: r => z * monV ρ 0 m + polV ρ r
def monMul : List Nat → List Nat → List Nat
  | [], b => b
  | a, [] => a
  | x :: a, y :: b => (x + y) :: monMul a b
def monCmp : List Nat → List Nat → Ordering
  | [], [] => .eq
  | [], _ :: _ => .lt
  | _ :: _, [] => .gt
  | x :: a, y :: b => if x < y then .lt else if y < x then .gt else monCmp a b
theorem monCmp_eq : ∀ {a b : List Nat}, monCmp a b = .eq → a = b
  | [], [], _ => rfl
  | [], _ :: _, h => by cases h
  | _ :: _, [], h => by cases h
  | x :: a, y :: b, h => by
    unfold monCmp at h
    split at h
    · cases h
    · split at h
      · cases h
      · rw [monCmp_eq h, show x = y by omega]
theorem monMul_val (ρ : Nat → Int) : ∀ (i : Nat) (a b : List Nat), monV ρ i (monMul a b) = monV ρ i a * monV ρ i b
  | _, [], b => by simp [monMul, monV]
  | _, x :: a, [] => by simp [monMul, monV]
  | i, x :: a, y :: b => by
    simp only [monMul, monV, monMul_val ρ (i + 1) a b, Int.pow_add]
    grind
/-- The sum; fuel counts the steps. -/
def polAdd : Nat → Pol → Pol → Pol
  | 0, p, q => p ++ q
  | _ + 1, [], q => q
  | _ + 1, p, [] => p
  | f + 1, (m, z) :: p, (n, w) :: q => match monCmp m n with
    | .gt => (m, z) :: polAdd f p ((n, w) :: q)
    | .lt => (n, w) :: polAdd f ((m, z) :: p) q
    | .eq => if z + w = 0 then polAdd f p q else (m, z + w) :: polAdd f p q
theorem polV_append (ρ : Nat → Int) : ∀ p q : Pol, polV ρ (p ++ q) = polV ρ p + polV ρ q
  | [], q => by simp [polV]
  | (m, z) :: p, q => by simp only [List.cons_append, polV, polV_append ρ p q]; omega
theorem polAdd_val (ρ : Nat → Int) : ∀ (f : Nat) (p q : Pol), polV ρ (polAdd f p q) = polV ρ p + polV ρ q
  | 0, p, q => polV_append ρ p q
  | _ + 1, [], q => by simp [polAdd, polV]
  | _ + 1, _ :: _, [] => by simp [polAdd, polV]
  | f + 1, (m, z) :: p, (n, w) :: q => by
    unfold polAdd
    split
    · simp only [polV, polAdd_val ρ f]; omega
    · simp only [polV, polAdd_val ρ f]; omega
    · rename_i h
      have := monCmp_eq h
      subst this
      split
      · rename_i h0
        simp only [polV, polAdd_val ρ f]
        have h1 : z * monV ρ 0 m + w * monV ρ 0 m = 0 := by rw [← Int.add_mul, h0, Int.zero_mul]
        omega
      · simp only [polV, polAdd_val ρ f, Int.add_mul]; omega
def polScale (m : List Nat) (z : Int) (p : Pol) : Pol := p.map fun x => (monMul m x.1, z * x.2)
theorem polScale_val (ρ : Nat → Int) (m : List Nat) (z : Int) : ∀ p : Pol, polV ρ (polScale m z p) = z * monV ρ 0 m * polV ρ p
  | [] => by simp [polScale, polV]
  | (n, w) :: p => by
    have ih := polScale_val ρ m z p
    simp only [polScale, List.map_cons, polV, monMul_val] at ih ⊢
    rw [ih]
    grind
def polSum (p q : Pol) : Pol := polAdd (p.length + q.length) p q
def polMul : Pol → Pol → Pol
  | [], _ => []
  | (m, z) :: p, q => polSum (polScale m z q) (polMul p q)
theorem polMul_val (ρ : Nat → Int) : ∀ p q : Pol, polV ρ (polMul p q) = polV ρ p * polV ρ q
  | [], q => by simp [polMul, polV]
  | (m, z) :: p, q => by
    simp only [polMul, polSum, polAdd_val, polScale_val, polMul_val ρ p q, polV, Int.add_mul]
def unitM (i : Nat) : List Nat := List.replicate i 0 ++ [1]
theorem unitM_val (ρ : Nat → Int) : ∀ (i j : Nat), monV ρ j (unitM i) = ρ (j + i)
  | 0, j => by simp [unitM, monV, Int.pow_one]
  | i + 1, j => by
    have ih := unitM_val ρ i (j + 1)
    simp only [unitM, List.replicate_succ, List.cons_append, monV, Int.pow_zero, Int.one_mul] at ih ⊢
    rw [ih, show j + 1 + i = j + (i + 1) by omega]
def Ex.pol : Ex → Pol
  | .v i => [(unitM i, 1)]
  | .c z => if z = 0 then [] else [([], z)]
  | .add a b => polSum a.pol b.pol
  | .sub a b => polSum a.pol (polScale [] (-1) b.pol)
  | .mul a b => polMul a.pol b.pol
theorem Ex.pol_val (ρ : Nat → Int) : ∀ e : Ex, polV ρ e.pol = e.val ρ
  | .v i => by simp [Ex.pol, Ex.val, polV, unitM_val]
  | .c z => by
    unfold Ex.pol Ex.val
    split
    · rename_i h; simp [polV, h]
    · simp [polV, monV]
  | .add a b => by simp only [Ex.pol, Ex.val, polSum, polAdd_val, Ex.pol_val ρ a, Ex.pol_val ρ b]
  | .sub a b => by
    simp only [Ex.pol, Ex.val, polSum, polAdd_val, polScale_val, Ex.pol_val ρ a, Ex.pol_val ρ b, monV]
    omega
  | .mul a b => by simp only [Ex.pol, Ex.val, polMul_val, Ex.pol_val ρ a, Ex.pol_val ρ b]
def polNul : Pol → Bool
  | [] => true
  | _ => false
theorem ring_val {a b : Ex} (h : polNul (Ex.sub a b).pol = true) (ρ : Nat → Int) : a.val ρ = b.val ρ := by
  have h1 := Ex.pol_val ρ (.sub a b)
  cases hp : (Ex.sub a b).pol with
  | nil =>
    rw [hp] at h1
    simp only [polV, Ex.val] at h1
    omega
  | cons x r => rw [hp] at h; cases h

/-- The field of p elements. -/
abbrev Fp := Fin 57896044618658097711785492504343953926634992332820282019728792003956564819949
def toF (z : Int) : Fp := ⟨(z % 57896044618658097711785492504343953926634992332820282019728792003956564819949).toNat, by omega⟩
theorem toF_add (a b : Int) : toF (a + b) = toF a + toF b := Fin.ext (by
  rw [Fin.val_add]
  show (_ % _ : Int).toNat = ((_ % _ : Int).toNat + (_ % _ : Int).toNat) % _
  omega)
theorem toF_sub (a b : Int) : toF (a - b) = toF a - toF b := Fin.ext (by
  rw [Fin.sub_def]
  show (_ % _ : Int).toNat = (_ - (_ % _ : Int).toNat + (_ % _ : Int).toNat) % _
  omega)
theorem toF_mul (a b : Int) : toF (a * b) = toF a * toF b := Fin.ext (by
  rw [Fin.val_mul]
  show (_ % _ : Int).toNat = ((_ % _ : Int).toNat * (_ % _ : Int).toNat) % _
  rw [Int.mul_emod]
  generalize hx : a % 57896044618658097711785492504343953926634992332820282019728792003956564819949 = x
  generalize hy : b % 57896044618658097711785492504343953926634992332820282019728792003956564819949 = y
  obtain ⟨m, rfl⟩ := Int.eq_ofNat_of_zero_le (show 0 ≤ x by omega)
  obtain ⟨n, rfl⟩ := Int.eq_ofNat_of_zero_le (show 0 ≤ y by omega)
  rw [← Int.natCast_mul, Int.toNat_natCast, Int.toNat_natCast]
  generalize m * n = k
  omega)
theorem toF_val (x : Fp) : toF x.val = x := Fin.ext (by
  show ((x.val : Int) % _).toNat = x.val
  have := x.isLt
  omega)
/-- What a term comes to in the field. -/
def Ex.fp (ρ : Nat → Fp) : Ex → Fp
  | .v i => ρ i
  | .c z => toF z
  | .add a b => a.fp ρ + b.fp ρ
  | .sub a b => a.fp ρ - b.fp ρ
  | .mul a b => a.fp ρ * b.fp ρ
theorem Ex.fp_val (ρ : Nat → Fp) : ∀ e : Ex, e.fp ρ = toF (e.val fun i => (ρ i).val)
  | .v i => (toF_val _).symm
  | .c z => rfl
  | .add a b => by rw [Ex.val, toF_add, ← Ex.fp_val ρ a, ← Ex.fp_val ρ b]; rfl
  | .sub a b => by rw [Ex.val, toF_sub, ← Ex.fp_val ρ a, ← Ex.fp_val ρ b]; rfl
  | .mul a b => by rw [Ex.val, toF_mul, ← Ex.fp_val ρ a, ← Ex.fp_val ρ b]; rfl
/-- Two terms that are the same polynomial come to the same. -/
theorem ring_fp {a b : Ex} (h : polNul (Ex.sub a b).pol = true) (ρ : Nat → Fp) : a.fp ρ = b.fp ρ := by
  rw [Ex.fp_val, Ex.fp_val, ring_val h]
/-- The first of these, at this place. -/
def at' : List Fp → Nat → Fp
  | [], _ => 0
  | x :: _, 0 => x
  | _ :: r, i + 1 => at' r i
end Go.Sx

import Derived.Test.YtfbcmndhjoebbaaZdEB
import Derived.Test.YtfbcmndhjoebbaaZdFPrime
set_option linter.unusedVariables false
set_option linter.unusedSimpArgs false
/-
  The field of p elements, and the group of the points of x*x + y*y = 1 + d*x*x*y*y where d is no square. No condition but those told.
-/
namespace Go.Sx
open Go Go.Proofs

theorem Gen.fermatE {n g : Nat} (h : Gen n g) {x N : Nat} (hN : N = n - 1) (hx : x % n ≠ 0) : x ^ N % n = 1 := by subst hN; exact h.fermat hx
theorem peE : pe + 1 = 57896044618658097711785492504343953926634992332820282019728792003956564819949 - 1 := rfl
def finv (a : Fp) : Fp := ⟨invN a.val, Nat.mod_lt _ (by decide)⟩
theorem fne_val {a : Fp} (h : a ≠ 0) : a.val % 57896044618658097711785492504343953926634992332820282019728792003956564819949 ≠ 0 := fun h2 => h (Fin.ext (by
  have := a.isLt
  rw [Nat.mod_eq_of_lt this] at h2
  exact h2))
theorem finv_val (a : Fp) : (finv a).val = invN a.val := rfl
theorem finv_mul {a : Fp} (h : a ≠ 0) : a * finv a = 1 := Fin.ext (by
  rw [Fin.val_mul, finv_val]
  unfold invN
  have hk := genprime_p.fermatE peE (fne_val h)
  revert hk
  generalize pe = k
  intro hk
  rw [Nat.mul_mod, Nat.mod_mod, ← Nat.mul_mod, ← Nat.pow_succ']
  exact hk)
theorem pe_pos : 0 < pe := by unfold pe; omega
theorem zero_powM {x n : Nat} (h : 0 < n) (hx : x = 0) : x ^ n % 57896044618658097711785492504343953926634992332820282019728792003956564819949 = 0 := by rw [hx, Nat.zero_pow h]
theorem invN_z {x : Nat} (hx : x = 0) : invN x = 0 := zero_powM pe_pos hx
theorem finv_z {a : Fp} (h : a.val = 0) : finv a = 0 := Fin.ext (by rw [finv_val, invN_z h]; rfl)
theorem finv_0 : finv 0 = 0 := finv_z rfl
theorem fr_mul0 (a : Fp) : a * 0 =
    0 :=
  ring_fp (a := (fun a : Ex => a * 0) (.v 0))
    (b := (fun a : Ex => 0) (.v 0)) (by kernel_rfl) (at' [a])
theorem fr_0mul (a : Fp) : 0 * a =
    0 :=
  ring_fp (a := (fun a : Ex => 0 * a) (.v 0))
    (b := (fun a : Ex => 0) (.v 0)) (by kernel_rfl) (at' [a])
theorem fr_add0 (a : Fp) : a + 0 =
    a :=
  ring_fp (a := (fun a : Ex => a + 0) (.v 0))
    (b := (fun a : Ex => a) (.v 0)) (by kernel_rfl) (at' [a])
theorem fr_sub0 (a : Fp) : a - 0 =
    a :=
  ring_fp (a := (fun a : Ex => a - 0) (.v 0))
    (b := (fun a : Ex => a) (.v 0)) (by kernel_rfl) (at' [a])
theorem fr_mul1 (a : Fp) : a * 1 =
    a :=
  ring_fp (a := (fun a : Ex => a * 1) (.v 0))
    (b := (fun a : Ex => a) (.v 0)) (by kernel_rfl) (at' [a])
theorem fr_comm (a b : Fp) : a * b =
    b * a :=
  ring_fp (a := (fun a b : Ex => a * b) (.v 0) (.v 1))
    (b := (fun a b : Ex => b * a) (.v 0) (.v 1)) (by kernel_rfl) (at' [a, b])
theorem fr_assoc (a b c : Fp) : a * (b * c) =
    a * b * c :=
  ring_fp (a := (fun a b c : Ex => a * (b * c)) (.v 0) (.v 1) (.v 2))
    (b := (fun a b c : Ex => a * b * c) (.v 0) (.v 1) (.v 2)) (by kernel_rfl) (at' [a, b, c])
theorem fr_undo (a b i : Fp) : b * (a * i) =
    i * (a * b) :=
  ring_fp (a := (fun a b i : Ex => b * (a * i)) (.v 0) (.v 1) (.v 2))
    (b := (fun a b i : Ex => i * (a * b)) (.v 0) (.v 1) (.v 2)) (by kernel_rfl) (at' [a, b, i])
theorem fr_sub (a b : Fp) : b + (a - b) =
    a :=
  ring_fp (a := (fun a b : Ex => b + (a - b)) (.v 0) (.v 1))
    (b := (fun a b : Ex => a) (.v 0) (.v 1)) (by kernel_rfl) (at' [a, b])
theorem fr_self (a : Fp) : a - a =
    0 :=
  ring_fp (a := (fun a : Ex => a - a) (.v 0))
    (b := (fun a : Ex => 0) (.v 0)) (by kernel_rfl) (at' [a])
theorem fr_canc (a b c : Fp) : (a - b) * c =
    a * c - b * c :=
  ring_fp (a := (fun a b c : Ex => (a - b) * c) (.v 0) (.v 1) (.v 2))
    (b := (fun a b c : Ex => a * c - b * c) (.v 0) (.v 1) (.v 2)) (by kernel_rfl) (at' [a, b, c])
theorem f_of_sub {a b : Fp} (h : a - b = 0) : a = b := by
  have := fr_sub a b
  rw [h, fr_add0] at this
  exact this.symm
theorem f_sub {a b : Fp} (h : a = b) : a - b = 0 := by rw [h, fr_self]
theorem fmul_eq0 {a b : Fp} (h : a * b = 0) : a = 0 ∨ b = 0 := by
  by_cases ha : a = 0
  · exact .inl ha
  · right
    have h1 := fr_undo a b (finv a)
    rw [finv_mul ha, h, fr_mul0, fr_mul1] at h1
    exact h1
theorem fmul_ne {a b : Fp} (ha : a ≠ 0) (hb : b ≠ 0) : a * b ≠ 0 := fun h => (fmul_eq0 h).elim ha hb
theorem fcanc {a b c : Fp} (hc : c ≠ 0) (h : a * c = b * c) : a = b := by
  have h1 := fr_canc a b c
  rw [f_sub h] at h1
  exact f_of_sub ((fmul_eq0 h1).resolve_right hc)
theorem f_two : (2 : Fp) ≠ 0 := by decide
theorem f_one : (1 : Fp) ≠ 0 := by decide
theorem fr_twice (a : Fp) : a + a =
    2 * a :=
  ring_fp (a := (fun a : Ex => a + a) (.v 0))
    (b := (fun a : Ex => 2 * a) (.v 0)) (by kernel_rfl) (at' [a])
theorem f_twice {a : Fp} (h : a + a = 0) : a = 0 := by
  rw [fr_twice] at h
  exact (fmul_eq0 h).resolve_left f_two

/-- No square. -/
def NS (d : Fp) : Prop := ∀ s, s * s ≠ d
abbrev Pt := Fp × Fp
def On (d : Fp) (P : Pt) : Prop := ee d P.1 P.2 = 0
def dn (d : Fp) (P Q : Pt) : Fp := 1 + d * (P.1 * Q.1 * P.2 * Q.2)
def dm (d : Fp) (P Q : Pt) : Fp := 1 - d * (P.1 * Q.1 * P.2 * Q.2)
theorem fr_sq (a i d w : Fp) : a * i * (a * i) - d * (w * i * (w * i)) =
    i * i * (a * a - d * (w * w)) :=
  ring_fp (a := (fun a i d w : Ex => a * i * (a * i) - d * (w * i * (w * i))) (.v 0) (.v 1) (.v 2) (.v 3))
    (b := (fun a i d w : Ex => i * i * (a * a - d * (w * w))) (.v 0) (.v 1) (.v 2) (.v 3)) (by kernel_rfl) (at' [a, i, d, w])
theorem no_sq {d : Fp} (hd : NS d) {a w : Fp} (h : a * a - d * (w * w) = 0) : w = 0 := by
  by_cases hw : w = 0
  · exact hw
  · have h1 := fr_sq a (finv w) d w
    rw [finv_mul hw, h, fr_mul0, fr_mul1, fr_mul1] at h1
    exact absurd (f_of_sub h1) (hd _)
theorem compl_e {d x1 y1 x2 y2 : Fp} (hd : NS d) (h1 : ee d x1 y1 = 0) (h2 : ee d x2 y2 = 0) (he : d*(x1*x2*y1*y2)*(d*(x1*x2*y1*y2)) = 1) : False := by
  have a1 := compl_a d x1 y1 x2 y2
  have a2 := compl_s d x1 y1 x2 y2
  rw [h1, h2, he, fr_self, fr_0mul, fr_mul0, fr_add0, fr_sub0] at a1 a2
  have b1 := no_sq hd a1
  have b2 := no_sq hd a2
  have a3 := compl_2 d x1 y1 x2 y2
  rw [b1, b2, fr_add0, fr_mul0] at a3
  have a4 := f_twice a3.symm
  rw [a4, fr_mul0] at he
  exact f_one he.symm
theorem fr_m1 (e : Fp) : e * e - 1 =
    (1 + e) * (e - 1) :=
  ring_fp (a := (fun e : Ex => e * e - 1) (.v 0))
    (b := (fun e : Ex => (1 + e) * (e - 1)) (.v 0)) (by kernel_rfl) (at' [e])
theorem fr_m2 (e : Fp) : e * e - 1 =
    (1 - e) * (0 - 1 - e) :=
  ring_fp (a := (fun e : Ex => e * e - 1) (.v 0))
    (b := (fun e : Ex => (1 - e) * (0 - 1 - e)) (.v 0)) (by kernel_rfl) (at' [e])
theorem dn_ne {d : Fp} (hd : NS d) {P Q : Pt} (hP : On d P) (hQ : On d Q) : dn d P Q ≠ 0 := fun h => by
  refine compl_e hd hP hQ (f_of_sub ?_)
  rw [fr_m1]
  unfold dn at h
  rw [h, fr_0mul]
theorem dm_ne {d : Fp} (hd : NS d) {P Q : Pt} (hP : On d P) (hQ : On d Q) : dm d P Q ≠ 0 := fun h => by
  refine compl_e hd hP hQ (f_of_sub ?_)
  rw [fr_m2]
  unfold dm at h
  rw [h, fr_0mul]
/-- The sum of two points. -/
def padd (d : Fp) (P Q : Pt) : Pt := ((P.1 * Q.2 + P.2 * Q.1) * finv (dn d P Q), (P.2 * Q.2 - P.1 * Q.1) * finv (dm d P Q))
theorem fr_can2 (a c i : Fp) : a * i * c =
    a * (c * i) :=
  ring_fp (a := (fun a c i : Ex => a * i * c) (.v 0) (.v 1) (.v 2))
    (b := (fun a c i : Ex => a * (c * i)) (.v 0) (.v 1) (.v 2)) (by kernel_rfl) (at' [a, c, i])
theorem padd_x {d : Fp} (hd : NS d) {P Q : Pt} (hP : On d P) (hQ : On d Q) : (padd d P Q).1 * dn d P Q = P.1 * Q.2 + P.2 * Q.1 := by
  unfold padd
  rw [fr_can2, finv_mul (dn_ne hd hP hQ), fr_mul1]
theorem padd_y {d : Fp} (hd : NS d) {P Q : Pt} (hP : On d P) (hQ : On d Q) : (padd d P Q).2 * dm d P Q = P.2 * Q.2 - P.1 * Q.1 := by
  unfold padd
  rw [fr_can2, finv_mul (dm_ne hd hP hQ), fr_mul1]
theorem padd_on {d : Fp} (hd : NS d) {P Q : Pt} (hP : On d P) (hQ : On d Q) : On d (padd d P Q) := by
  have h := clos_m d (padd d P Q).1 (padd d P Q).2 (dn d P Q) (dm d P Q)
  rw [padd_x hd hP hQ, padd_y hd hP hQ] at h
  have h2 := clos d P.1 P.2 Q.1 Q.2
  rw [hP, hQ, fr_mul0, fr_mul0, fr_add0] at h2
  have h3 := h.trans h2
  exact (fmul_eq0 h3).resolve_right (fmul_ne (fmul_ne (dn_ne hd hP hQ) (dn_ne hd hP hQ)) (fmul_ne (dm_ne hd hP hQ) (dm_ne hd hP hQ)))
theorem fr_pi (a b c e : Fp) : a * b * c * e =
    b * a * e * c :=
  ring_fp (a := (fun a b c e : Ex => a * b * c * e) (.v 0) (.v 1) (.v 2) (.v 3))
    (b := (fun a b c e : Ex => b * a * e * c) (.v 0) (.v 1) (.v 2) (.v 3)) (by kernel_rfl) (at' [a, b, c, e])
theorem fr_nx (a b c e : Fp) : a * e + c * b =
    b * c + e * a :=
  ring_fp (a := (fun a b c e : Ex => a * e + c * b) (.v 0) (.v 1) (.v 2) (.v 3))
    (b := (fun a b c e : Ex => b * c + e * a) (.v 0) (.v 1) (.v 2) (.v 3)) (by kernel_rfl) (at' [a, b, c, e])
theorem fr_ny (a b c e : Fp) : c * e - a * b =
    e * c - b * a :=
  ring_fp (a := (fun a b c e : Ex => c * e - a * b) (.v 0) (.v 1) (.v 2) (.v 3))
    (b := (fun a b c e : Ex => e * c - b * a) (.v 0) (.v 1) (.v 2) (.v 3)) (by kernel_rfl) (at' [a, b, c, e])
theorem padd_comm (d : Fp) (P Q : Pt) : padd d P Q = padd d Q P := by
  have h1 : dn d P Q = dn d Q P := by unfold dn; rw [fr_pi]
  have h2 : dm d P Q = dm d Q P := by unfold dm; rw [fr_pi]
  unfold padd
  rw [h1, h2, fr_nx, fr_ny]
theorem fr_cross (u p v q : Fp) : u * (p * q) =
    u * p * q :=
  ring_fp (a := (fun u p v q : Ex => u * (p * q)) (.v 0) (.v 1) (.v 2) (.v 3))
    (b := (fun u p v q : Ex => u * p * q) (.v 0) (.v 1) (.v 2) (.v 3)) (by kernel_rfl) (at' [u, p, v, q])
theorem fr_cros2 (v p q : Fp) : v * (p * q) =
    v * q * p :=
  ring_fp (a := (fun v p q : Ex => v * (p * q)) (.v 0) (.v 1) (.v 2))
    (b := (fun v p q : Ex => v * q * p) (.v 0) (.v 1) (.v 2)) (by kernel_rfl) (at' [v, p, q])
theorem fcross {u p m v q n : Fp} (hp : p ≠ 0) (hq : q ≠ 0) (h1 : u * p = m) (h2 : v * q = n) (h : m * q = n * p) : u = v := by
  refine fcanc (fmul_ne hp hq) ?_
  rw [fr_cross u p v q, fr_cros2 v p q, h1, h2, h]
theorem padd_assoc {d : Fp} (hd : NS d) {P Q S : Pt} (hP : On d P) (hQ : On d Q) (hS : On d S) : padd d (padd d P Q) S = padd d P (padd d Q S) := by
  have hA := padd_on hd hP hQ
  have hB := padd_on hd hQ hS
  have hW : dn d P Q * dm d P Q * (dn d Q S * dm d Q S) ≠ 0 := fmul_ne (fmul_ne (dn_ne hd hP hQ) (dm_ne hd hP hQ)) (fmul_ne (dn_ne hd hQ hS) (dm_ne hd hQ hS))
  have e1 := padd_x hd hP hQ
  have e2 := padd_y hd hP hQ
  have e3 := padd_x hd hQ hS
  have e4 := padd_y hd hQ hS
  refine Prod.ext (fcross (dn_ne hd hA hS) (dn_ne hd hP hB) (padd_x hd hA hS) (padd_x hd hP hB) ?_) (fcross (dm_ne hd hA hS) (dm_ne hd hP hB) (padd_y hd hA hS) (padd_y hd hP hB) ?_)
  · refine fcanc hW ?_
    have k1 := assoc_mx d (padd d P Q).1 (padd d P Q).2 S.1 S.2 P.1 P.2 (padd d Q S).1 (padd d Q S).2 (dn d P Q) (dm d P Q) (dn d Q S) (dm d Q S)
    have k2 := assoc_nx d (padd d P Q).1 (padd d P Q).2 S.1 S.2 P.1 P.2 (padd d Q S).1 (padd d Q S).2 (dn d P Q) (dm d P Q) (dn d Q S) (dm d Q S)
    rw [e1, e2, e3, e4] at k1 k2
    have k3 := assoc_x d P.1 P.2 Q.1 Q.2 S.1 S.2
    rw [hP, hQ, hS, fr_mul0, fr_mul0, fr_mul0, fr_add0, fr_add0] at k3
    exact k1.trans ((f_of_sub k3).trans k2.symm)
  · refine fcanc hW ?_
    have k1 := assoc_my d (padd d P Q).1 (padd d P Q).2 S.1 S.2 P.1 P.2 (padd d Q S).1 (padd d Q S).2 (dn d P Q) (dm d P Q) (dn d Q S) (dm d Q S)
    have k2 := assoc_ny d (padd d P Q).1 (padd d P Q).2 S.1 S.2 P.1 P.2 (padd d Q S).1 (padd d Q S).2 (dn d P Q) (dm d P Q) (dn d Q S) (dm d Q S)
    rw [e1, e2, e3, e4] at k1 k2
    have k3 := assoc_y d P.1 P.2 Q.1 Q.2 S.1 S.2
    rw [hP, hQ, hS, fr_mul0, fr_mul0, fr_mul0, fr_add0, fr_add0] at k3
    exact k1.trans ((f_of_sub k3).trans k2.symm)
/-- The neutral point. -/
def pO : Pt := (0, 1)
def pneg (P : Pt) : Pt := (0 - P.1, P.2)
theorem on_o (d : Fp) : ee d 0 1 =
    0 :=
  ring_fp (a := (fun d : Ex => ee d 0 1) (.v 0))
    (b := (fun d : Ex => 0) (.v 0)) (by kernel_rfl) (at' [d])
theorem on_n (d x y : Fp) : ee d (0 - x) y =
    ee d x y :=
  ring_fp (a := (fun d x y : Ex => ee d (0 - x) y) (.v 0) (.v 1) (.v 2))
    (b := (fun d x y : Ex => ee d x y) (.v 0) (.v 1) (.v 2)) (by kernel_rfl) (at' [d, x, y])
theorem pO_on (d : Fp) : On d pO := on_o d
theorem pneg_on {d : Fp} {P : Pt} (h : On d P) : On d (pneg P) := (on_n d P.1 P.2).trans h
theorem z_dn (d x y : Fp) : 1 + d * (x * 0 * y * 1) =
    1 :=
  ring_fp (a := (fun d x y : Ex => 1 + d * (x * 0 * y * 1)) (.v 0) (.v 1) (.v 2))
    (b := (fun d x y : Ex => 1) (.v 0) (.v 1) (.v 2)) (by kernel_rfl) (at' [d, x, y])
theorem z_dm (d x y : Fp) : 1 - d * (x * 0 * y * 1) =
    1 :=
  ring_fp (a := (fun d x y : Ex => 1 - d * (x * 0 * y * 1)) (.v 0) (.v 1) (.v 2))
    (b := (fun d x y : Ex => 1) (.v 0) (.v 1) (.v 2)) (by kernel_rfl) (at' [d, x, y])
theorem z_x (x y : Fp) : x * 1 + y * 0 =
    x :=
  ring_fp (a := (fun x y : Ex => x * 1 + y * 0) (.v 0) (.v 1))
    (b := (fun x y : Ex => x) (.v 0) (.v 1)) (by kernel_rfl) (at' [x, y])
theorem z_y (x y : Fp) : y * 1 - x * 0 =
    y :=
  ring_fp (a := (fun x y : Ex => y * 1 - x * 0) (.v 0) (.v 1))
    (b := (fun x y : Ex => y) (.v 0) (.v 1)) (by kernel_rfl) (at' [x, y])
theorem finv_1 : finv 1 = 1 := by
  have := finv_mul f_one
  rw [fr_comm, fr_mul1] at this
  exact this
theorem padd_0 (d : Fp) (P : Pt) : padd d P pO = P := by
  unfold padd dn dm pO
  rw [z_dn, z_dm, z_x, z_y, finv_1, fr_mul1, fr_mul1]
theorem padd_0' (d : Fp) (P : Pt) : padd d pO P = P := by rw [padd_comm, padd_0]
theorem n_x (x y : Fp) : x * y + y * (0 - x) =
    0 :=
  ring_fp (a := (fun x y : Ex => x * y + y * (0 - x)) (.v 0) (.v 1))
    (b := (fun x y : Ex => 0) (.v 0) (.v 1)) (by kernel_rfl) (at' [x, y])
theorem n_y (d x y : Fp) : y * y - x * (0 - x) - (1 - d * (x * (0 - x) * y * y)) =
    ee d x y :=
  ring_fp (a := (fun d x y : Ex => y * y - x * (0 - x) - (1 - d * (x * (0 - x) * y * y))) (.v 0) (.v 1) (.v 2))
    (b := (fun d x y : Ex => ee d x y) (.v 0) (.v 1) (.v 2)) (by kernel_rfl) (at' [d, x, y])
theorem padd_neg {d : Fp} (hd : NS d) {P : Pt} (hP : On d P) : padd d P (pneg P) = pO := by
  refine Prod.ext ?_ ?_
  · show (P.1 * P.2 + P.2 * (0 - P.1)) * _ = 0
    rw [n_x, fr_0mul]
  · have h := n_y d P.1 P.2
    rw [hP] at h
    have h2 := finv_mul (dm_ne hd hP (pneg_on hP))
    show (P.2 * P.2 - P.1 * (0 - P.1)) * finv (dm d P (pneg P)) = 1
    rw [f_of_sub h]
    exact h2
/-- n times the point. -/
def smul (d : Fp) : Nat → Pt → Pt
  | 0, _ => pO
  | n + 1, P => padd d (smul d n P) P
theorem smul_on {d : Fp} (hd : NS d) {P : Pt} (hP : On d P) : ∀ n, On d (smul d n P)
  | 0 => pO_on d
  | n + 1 => padd_on hd (smul_on hd hP n) hP
theorem smul_1 (d : Fp) (P : Pt) : smul d 1 P = P := padd_0' d P
theorem smul_add {d : Fp} (hd : NS d) {P : Pt} (hP : On d P) (m : Nat) : ∀ n, smul d (m + n) P = padd d (smul d m P) (smul d n P)
  | 0 => (padd_0 d _).symm
  | n + 1 => by
    show padd d (smul d (m + n) P) P = padd d (smul d m P) (padd d (smul d n P) P)
    rw [smul_add hd hP m n, padd_assoc hd (smul_on hd hP m) (smul_on hd hP n) hP]
theorem smul_mul {d : Fp} (hd : NS d) {P : Pt} (hP : On d P) (m : Nat) : ∀ n, smul d (m * n) P = smul d n (smul d m P)
  | 0 => rfl
  | n + 1 => by
    show smul d (m * n + m) P = padd d (smul d n (smul d m P)) (smul d m P)
    rw [smul_add hd hP, smul_mul hd hP m n]
theorem smul_O (d : Fp) : ∀ n, smul d n pO = pO
  | 0 => rfl
  | n + 1 => by
    show padd d (smul d n pO) pO = pO
    rw [padd_0, smul_O d n]
/-- What two numbers bring to the neutral point, their greatest common divisor does. -/
theorem smul_gcd {d : Fp} (hd : NS d) {P : Pt} (hP : On d P) (a b : Nat) : smul d a P = pO → smul d b P = pO → smul d (Nat.gcd a b) P = pO := by
  refine Nat.gcd.induction (P := fun a b => smul d a P = pO → smul d b P = pO → smul d (Nat.gcd a b) P = pO) a b ?_ ?_
  · intro b _ hb
    rwa [Nat.gcd_zero_left]
  · intro m b hm ih ha hb
    rw [Nat.gcd_rec]
    refine ih ?_ ha
    have h1 := Nat.div_add_mod b m
    rw [← h1, smul_add hd hP, smul_mul hd hP, ha, smul_O, padd_0'] at hb
    exact hb
end Go.Sx

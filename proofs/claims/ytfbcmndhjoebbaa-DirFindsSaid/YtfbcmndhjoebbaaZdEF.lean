import Derived.Test.YtfbcmndhjoebbaaZdEE
import Derived.Test.YtfbcmndhjoebbaaZdEP
set_option linter.unusedVariables false
set_option linter.unusedSimpArgs false
/-
  What the ladder comes to: it commutes, it is nought just at points of order two, and multiples of the base point never come to nought. No condition but those told.
-/
namespace Go.Sx
open Go Go.Proofs

theorem finv_ne {a : Fp} (h : a ≠ 0) : finv a ≠ 0 := fun h1 => by
  have := finv_mul h
  rw [h1, fr_mul0] at this
  exact f_one this.symm
theorem tw_1 (d x y : Fp) : ee d x y =
    x*x*(1-d*(y*y)) - (1-y*y) :=
  ring_fp (a := (fun d x y : Ex => ee d x y) (.v 0) (.v 1) (.v 2))
    (b := (fun d x y : Ex => x*x*(1-d*(y*y)) - (1-y*y)) (.v 0) (.v 1) (.v 2)) (by kernel_rfl) (at' [d, x, y])
theorem tw_3 (y : Fp) : (1+y)*(1-y) =
    1-y*y :=
  ring_fp (a := (fun y : Ex => (1+y)*(1-y)) (.v 0))
    (b := (fun y : Ex => 1-y*y) (.v 0)) (by kernel_rfl) (at' [y])
theorem tw_4 (y d : Fp) : 1 - d*(0*0*y*y) =
    1 :=
  ring_fp (a := (fun y d : Ex => 1 - d*(0*0*y*y)) (.v 0) (.v 1))
    (b := (fun y d : Ex => 1) (.v 0) (.v 1)) (by kernel_rfl) (at' [y, d])
theorem tw_6 (y : Fp) : 0*y+y*0 =
    0 :=
  ring_fp (a := (fun y : Ex => 0*y+y*0) (.v 0))
    (b := (fun y : Ex => 0) (.v 0)) (by kernel_rfl) (at' [y])
theorem tw_7 (y : Fp) : y*y-0*0 =
    y*y :=
  ring_fp (a := (fun y : Ex => y*y-0*0) (.v 0))
    (b := (fun y : Ex => y*y) (.v 0)) (by kernel_rfl) (at' [y])
theorem tw_8 (x y : Fp) : x*y+y*x =
    2*(x*y) :=
  ring_fp (a := (fun x y : Ex => x*y+y*x) (.v 0) (.v 1))
    (b := (fun x y : Ex => 2*(x*y)) (.v 0) (.v 1)) (by kernel_rfl) (at' [x, y])
/-- A point whose u is nought comes to the neutral one when doubled. -/
theorem two_of_u {d s : Fp} {P : Pt} (h : Par d s) (hP : On d P) (hu : uO s P = 0) : padd d P P = pO := by
  have hy : 1 - P.2 * P.2 = 0 := by
    rw [← tw_3]
    rcases fmul_eq0 hu with h1 | h1
    · rw [h1, fr_0mul]
    · by_cases h2 : s * (1 - P.2) = 0
      · rw [(fmul_eq0 h2).resolve_left h.s0, fr_mul0]
      · exact absurd h1 (finv_ne h2)
  have hyy : P.2 * P.2 = 1 := (f_of_sub hy).symm
  have hx : P.1 = 0 := by
    have h1 := hP
    unfold On at h1
    rw [tw_1, hyy, fr_self, fr_sub0, fr_mul1] at h1
    exact fsq0 ((fmul_eq0 h1).resolve_right h.d1)
  refine Prod.ext ?_ ?_
  · show (P.1 * P.2 + P.2 * P.1) * _ = 0
    rw [hx, tw_6, fr_0mul]
  · show (P.2 * P.2 - P.1 * P.1) * finv (1 - d * (P.1 * P.1 * P.2 * P.2)) = 1
    rw [hx, tw_4, finv_1, fr_mul1, tw_7, hyy]
theorem tw_11 (d x : Fp) : 1-d*(x*x*0*0) =
    1 :=
  ring_fp (a := (fun d x : Ex => 1-d*(x*x*0*0)) (.v 0) (.v 1))
    (b := (fun d x : Ex => 1) (.v 0) (.v 1)) (by kernel_rfl) (at' [d, x])
theorem tw_12 (d x : Fp) : ee d x 0 =
    x*x-1 :=
  ring_fp (a := (fun d x : Ex => ee d x 0) (.v 0) (.v 1))
    (b := (fun d x : Ex => x*x-1) (.v 0) (.v 1)) (by kernel_rfl) (at' [d, x])
theorem tw_13 (x : Fp) : 0*0-x =
    0-x :=
  ring_fp (a := (fun x : Ex => 0*0-x) (.v 0))
    (b := (fun x : Ex => 0-x) (.v 0)) (by kernel_rfl) (at' [x])
/-- The other way round. -/
theorem u_of_two {d s : Fp} {P : Pt} (h : Par d s) (hP : On d P) (h2 : padd d P P = pO) : uO s P = 0 := by
  have e1 := padd_x h.ns hP hP
  have e2 := padd_y h.ns hP hP
  rw [h2] at e1 e2
  have e3 : 0 * dn d P P = P.1 * P.2 + P.2 * P.1 := e1
  rw [fr_0mul, tw_8] at e3
  have e4 : 1 * dm d P P = P.2 * P.2 - P.1 * P.1 := e2
  rw [fr_comm, fr_mul1] at e4
  rcases fmul_eq0 ((fmul_eq0 e3.symm).resolve_left f_two) with hx | hy
  · unfold dm at e4
    rw [hx, tw_4, tw_7] at e4
    unfold uO
    have h3 : (1 + P.2) * (1 - P.2) = 0 := by rw [tw_3, ← e4, fr_self]
    rcases fmul_eq0 h3 with h4 | h4
    · rw [h4, fr_0mul]
    · rw [h4, fr_mul0, finv_0, fr_mul0]
  · exfalso
    have h1 := hP
    unfold On at h1
    unfold dm at e4
    rw [hy, tw_11, tw_13] at e4
    rw [hy, tw_12] at h1
    rw [f_of_sub h1] at e4
    revert e4
    decide
theorem has_u {d s : Fp} {P : Pt} (hu : uO s P ≠ 0) : Has s (uO s P) P.2 := by
  have hw : s * (1 - P.2) ≠ 0 := fun h => hu (by unfold uO; rw [h, finv_0, fr_mul0])
  show (1 + P.2) * finv (s * (1 - P.2)) * (s * (1 - P.2)) = 1 + P.2
  rw [fr_can2, finv_mul hw, fr_mul1]
theorem u_has {s t : Fp} {P : Pt} (hs : s ≠ 0) (h : Has s t P.2) : uO s P = t := by
  have hw : s * (1 - P.2) ≠ 0 := fmul_ne hs h.ne
  unfold uO
  rw [← h, ← fr_assoc, finv_mul hw, fr_mul1]
theorem smul_two {d s : Fp} {P : Pt} (h : Par d s) (hP : On d P) (n : Nat) : padd d (smul d n P) (smul d n P) = smul d (2 * n) P := by rw [Nat.two_mul, smul_add h.ns hP]
/-- u of a multiple is nought just if twice the multiple is the neutral point. -/
theorem u_zero {d s : Fp} {P : Pt} (h : Par d s) (hP : On d P) (n : Nat) : uO s (smul d n P) = 0 ↔ smul d (2 * n) P = pO := by
  rw [← smul_two h hP]
  exact ⟨two_of_u h (smul_on h.ns hP n), u_of_two h (smul_on h.ns hP n)⟩
theorem nF_eq {a b : Nat} (ha : a < 57896044618658097711785492504343953926634992332820282019728792003956564819949) (hb : b < 57896044618658097711785492504343953926634992332820282019728792003956564819949) (h : nF a = nF b) : a = b := by
  have := congrArg Fin.val h
  have e : a % 57896044618658097711785492504343953926634992332820282019728792003956564819949 = b % 57896044618658097711785492504343953926634992332820282019728792003956564819949 := this
  rwa [Nat.mod_eq_of_lt ha, Nat.mod_eq_of_lt hb] at e
theorem nF_z {a : Nat} (ha : a < 57896044618658097711785492504343953926634992332820282019728792003956564819949) (h : nF a = 0) : a = 0 := nF_eq ha (by decide) h
/-- The number t is u of this point. -/
structure Pnt (t : Nat) (d s : Fp) (P : Pt) : Prop where
  ct : CT d s
  on : On d P
  has : Has s (nF t) P.2
theorem Pnt.par {t : Nat} {d s : Fp} {P : Pt} (h : Pnt t d s P) : Par d s := h.ct.par
theorem ex_pnt {t : Nat} (ht : nF t ≠ 0) : ∃ d s P, Pnt t d s P := by
  obtain ⟨d, s, P, h1, h2, h3⟩ := ex_pt ht
  exact ⟨d, s, P, h1, h2, h3⟩
theorem Pnt.lad {t : Nat} {d s : Fp} {P : Pt} (h : Pnt t d s P) (ht : nF t ≠ 0) {n : Nat} (hn : n < 2 ^ 255) : nF (ladV t n) = uO s (smul d n P) := ladV_u h.par h.on ht h.has hn
/-- The ladder comes to nought just if twice the multiple is the neutral point. -/
theorem Pnt.zero {t : Nat} {d s : Fp} {P : Pt} (h : Pnt t d s P) (ht : nF t ≠ 0) {n : Nat} (hn : n < 2 ^ 255) : ladV t n = 0 ↔ smul d (2 * n) P = pO := by
  rw [← u_zero h.par h.on, ← h.lad ht hn]
  exact ⟨fun e => by rw [e]; rfl, nF_z (ladV_lt t n)⟩
/-- The order of the base point. -/
def ell : Nat := 7237005577332262213973186563042994240857116359379907606001950938285454250989
theorem ell_pr : Pr ell := lp7237005577332262213973186563042994240857116359379907606001950938285454250989
theorem ell_lt : ell < 2 ^ 255 := by unfold ell; omega
theorem lad_ell : ladV 9 ell = 0 := by
  unfold ladV
  rw [inv_pm]
  kernel_rfl
theorem lad_9_1 : ladV 9 1 = 9 := by
  unfold ladV
  rw [inv_pm]
  kernel_rfl
theorem Pr.cop {q : Nat} (h : Pr q) {n : Nat} (hn : ¬ q ∣ n) : Nat.gcd n q = 1 := by
  rcases h.2 _ (Nat.gcd_dvd_right n q) with h1 | h1
  · exact h1
  · exact absurd (by rw [← h1]; exact Nat.gcd_dvd_left n q) hn
theorem Pr.mul {q : Nat} (h : Pr q) {a b : Nat} (ha : ¬ q ∣ a) (hb : ¬ q ∣ b) : ¬ q ∣ a * b := fun hd => by
  have h1 : Nat.Coprime q a := by rw [Nat.coprime_comm]; exact h.cop ha
  exact hb (h1.dvd_of_dvd_mul_left hd)
/-- A scalar with its fixed bits. -/
def Clm (k : Nat) : Prop := 8 ∣ k ∧ k < 2 ^ 255 ∧ 2 ^ 254 ≤ k
theorem ell_8 : ¬ ell ∣ 8 := by unfold ell; decide
theorem Clm.nell {k : Nat} (h : Clm k) : ¬ ell ∣ k := by
  obtain ⟨⟨m, rfl⟩, h1, h2⟩ := h
  refine ell_pr.mul ell_8 (fun hd => ?_)
  have := Nat.le_of_dvd (by omega) hd
  unfold ell at this
  omega
/-- A multiple of the base point that is not the neutral one. -/
def Bas (t : Nat) : Prop := ∃ d s P n, Pnt 9 d s P ∧ ¬ ell ∣ n ∧ t < 57896044618658097711785492504343953926634992332820282019728792003956564819949 ∧ nF t = uO s (smul d n P)
theorem nF_9 : nF 9 ≠ 0 := by decide
theorem bas_9 : Bas 9 := by
  obtain ⟨d, s, P, h⟩ := ex_pnt nF_9
  refine ⟨d, s, P, 1, h, by unfold ell; decide, by decide, ?_⟩
  rw [smul_1, u_has h.par.s0 h.has]
theorem bas_ne {d s : Fp} {P : Pt} {n : Nat} (h : Pnt 9 d s P) (hn : ¬ ell ∣ n) : uO s (smul d n P) ≠ 0 := fun h0 => by
  have h1 := (u_zero h.par h.on n).1 h0
  have h2 := (h.zero nF_9 ell_lt).1 lad_ell
  have h3 := smul_gcd h.par.ns h.on _ _ h1 h2
  rw [Nat.gcd_mul_left, ell_pr.cop hn] at h3
  have h4 := (h.zero nF_9 (n := 1) (by omega)).2 h3
  rw [lad_9_1] at h4
  cases h4
theorem Bas.ne {t : Nat} (h : Bas t) : nF t ≠ 0 := by
  obtain ⟨d, s, P, n, h1, h2, _, h4⟩ := h
  rw [h4]
  exact bas_ne h1 h2
/-- Such a point times a scalar is one again; it never comes to nought. -/
theorem Bas.mul {t k : Nat} (h : Bas t) (hk : Clm k) : Bas (ladV t k) := by
  have ht := h.ne
  obtain ⟨d, s, P, n, h1, h2, h3, h4⟩ := h
  have hp : Pnt t d s (smul d n P) := ⟨h1.ct, smul_on h1.par.ns h1.on n, by
    rw [h4]
    exact has_u (d := d) (bas_ne h1 h2)⟩
  refine ⟨d, s, P, n * k, h1, ell_pr.mul h2 hk.nell, ladV_lt _ _, ?_⟩
  rw [hp.lad ht hk.2.1, smul_mul h1.par.ns h1.on]
theorem Bas.mul_ne {t k : Nat} (h : Bas t) (hk : Clm k) : ladV t k ≠ 0 := fun h0 => (h.mul hk).ne (by rw [h0]; rfl)
end Go.Sx

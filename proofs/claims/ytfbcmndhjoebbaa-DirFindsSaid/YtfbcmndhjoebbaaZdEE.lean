import Derived.Test.YtfbcmndhjoebbaaZdED
import Derived.Test.YtfbcmndhjoebbaaZdGK
set_option linter.unusedVariables false
set_option linter.unusedSimpArgs false
/-
  The ladder over numbers is multiplication of a point on the curve or on its twist. No condition but those told.
-/
namespace Go.Sx
open Go Go.Proofs

def nF (n : Nat) : Fp := ⟨n % 57896044618658097711785492504343953926634992332820282019728792003956564819949, Nat.mod_lt _ (by decide)⟩
theorem nF_ad (a b : Nat) : nF (ad a b) = nF a + nF b := Fin.ext (by
  rw [Fin.val_add]
  show (a + b) % 57896044618658097711785492504343953926634992332820282019728792003956564819949 % 57896044618658097711785492504343953926634992332820282019728792003956564819949 = (a % 57896044618658097711785492504343953926634992332820282019728792003956564819949 + b % 57896044618658097711785492504343953926634992332820282019728792003956564819949) % 57896044618658097711785492504343953926634992332820282019728792003956564819949
  omega)
theorem nF_sb (a b : Nat) : nF (sb a b) = nF a - nF b := Fin.ext (by
  rw [Fin.sub_def]
  show (a + (57896044618658097711785492504343953926634992332820282019728792003956564819949 - b % 57896044618658097711785492504343953926634992332820282019728792003956564819949)) % 57896044618658097711785492504343953926634992332820282019728792003956564819949 % 57896044618658097711785492504343953926634992332820282019728792003956564819949 = (57896044618658097711785492504343953926634992332820282019728792003956564819949 - b % 57896044618658097711785492504343953926634992332820282019728792003956564819949 + a % 57896044618658097711785492504343953926634992332820282019728792003956564819949) % 57896044618658097711785492504343953926634992332820282019728792003956564819949
  omega)
theorem nF_ml (a b : Nat) : nF (ml a b) = nF a * nF b := Fin.ext (by
  rw [Fin.val_mul]
  show a * b % 57896044618658097711785492504343953926634992332820282019728792003956564819949 % 57896044618658097711785492504343953926634992332820282019728792003956564819949 = (a % 57896044618658097711785492504343953926634992332820282019728792003956564819949) * (b % 57896044618658097711785492504343953926634992332820282019728792003956564819949) % 57896044618658097711785492504343953926634992332820282019728792003956564819949
  rw [Nat.mod_mod, Nat.mul_mod])
theorem pow_modG (a k : Nat) : a ^ k % 57896044618658097711785492504343953926634992332820282019728792003956564819949 % 57896044618658097711785492504343953926634992332820282019728792003956564819949 = (a % 57896044618658097711785492504343953926634992332820282019728792003956564819949) ^ k % 57896044618658097711785492504343953926634992332820282019728792003956564819949 := by rw [Nat.mod_mod, Nat.pow_mod]
theorem nF_inv (a : Nat) : nF (invN a) = finv (nF a) := Fin.ext (pow_modG a pe)
theorem nF_dX (x z : Nat) : nF (dX x z) = gX (nF x) (nF z) := by
  unfold dX gX
  rw [nF_ml, nF_ml, nF_ml, nF_ad, nF_sb]
theorem nF_eeN (x z : Nat) : nF (eeN x z) = gE (nF x) (nF z) := by
  unfold eeN gE
  rw [nF_sb, nF_ml, nF_ml, nF_ad, nF_sb]
theorem nF_dZ (x z : Nat) : nF (dZ x z) = gZ (nF x) (nF z) := by
  unfold dZ gZ
  rw [nF_ml, nF_ad, nF_ml, nF_ml, nF_ad, nF_eeN]; rfl
theorem nF_cA (x z u v : Nat) : nF (cA x z u v) = hA (nF x) (nF z) (nF u) (nF v) := by
  unfold cA hA
  rw [nF_ml, nF_sb, nF_ad]
theorem nF_cB (x z u v : Nat) : nF (cB x z u v) = hB (nF x) (nF z) (nF u) (nF v) := by
  unfold cB hB
  rw [nF_ml, nF_sb, nF_ad]
theorem nF_sX (x z u v : Nat) : nF (sX x z u v) = hX (nF x) (nF z) (nF u) (nF v) := by
  unfold sX hX
  rw [nF_ml, nF_ad, nF_cA, nF_cB]
theorem nF_sZ (t x z u v : Nat) : nF (sZ t x z u v) = hZ (nF t) (nF x) (nF z) (nF u) (nF v) := by
  unfold sZ hZ
  rw [nF_ml, nF_ml, nF_sb, nF_cA, nF_cB]
def RepL (d s : Fp) (P : Pt) (m : Nat) (S : Lad) : Prop := Rep s (nF S.1) (nF S.2.1) (smul d m P) ∧ Rep s (nF S.2.2.1) (nF S.2.2.2) (smul d (m + 1) P)
theorem l0_1 (s : Fp) : 1 * (s * (1 - pO.2)) = 0 * (1 + pO.2) := by rw [show (1 : Fp) - pO.2 = 0 from by decide, fr_mul0, fr_mul0, fr_0mul]
theorem l0_2 (y : Fp) : 1*(1+y) =
    1+y :=
  ring_fp (a := (fun y : Ex => 1*(1+y)) (.v 0))
    (b := (fun y : Ex => 1+y) (.v 0)) (by kernel_rfl) (at' [y])
theorem lad_rep {d s : Fp} {P : Pt} {t n : Nat} (h : Par d s) (hP : On d P) (ht : nF t ≠ 0) (hh : Has s (nF t) P.2) (hn : n < 2 ^ 255) : ∀ j, j ≤ 255 → RepL d s P (n / 2 ^ (255 - j)) (lad t n j)
  | 0, _ => by
    have e : n / 2 ^ (255 - 0) = 0 := Nat.div_eq_of_lt hn
    rw [e]
    refine ⟨rep_of h.s0 (l0_1 s) (fun ⟨h1, _⟩ => f_one h1), ?_⟩
    rw [Nat.zero_add, smul_1]
    refine rep_of h.s0 ?_ (fun ⟨_, h1⟩ => f_one h1)
    show nF t * (s * (1 - P.2)) = 1 * (1 + P.2)
    rw [l0_2]
    exact hh
  | j + 1, hj => by
    obtain ⟨h1, h2⟩ := lad_rep h hP ht hh hn j (by omega)
    have e1 : 255 - j = 254 - j + 1 := by omega
    have e2 : n / 2 ^ (255 - j) = n / 2 ^ (254 - j) / 2 := by rw [e1, Nat.pow_succ, Nat.div_div_eq_div_mul]
    rw [show 255 - (j + 1) = 254 - j by omega]
    generalize hm : n / 2 ^ (255 - j) = m at h1 h2 e2
    have e3 := Nat.div_add_mod (n / 2 ^ (254 - j)) 2
    rw [← e2] at e3
    show RepL d s P (n / 2 ^ (254 - j)) (stepL t (n / 2 ^ (254 - j) % 2) (lad t n j))
    generalize lad t n j = S at h1 h2
    obtain ⟨x, z, u, v⟩ := S
    unfold stepL
    split
    · rename_i hb
      rw [hb] at e3
      obtain ⟨k1, k2⟩ := step_1 h hP ht hh h1 h2
      rw [← e3]
      refine ⟨?_, ?_⟩
      · show Rep s (nF (sX u v x z)) (nF (sZ t u v x z)) _
        rw [nF_sX, nF_sZ]
        exact k1
      · show Rep s (nF (dX u v)) (nF (dZ u v)) _
        rw [nF_dX, nF_dZ]
        exact k2
    · rename_i hb
      have hb0 : n / 2 ^ (254 - j) % 2 = 0 := by omega
      rw [hb0, Nat.add_zero] at e3
      obtain ⟨k1, k2⟩ := step_0 h hP ht hh h1 h2
      rw [← e3]
      refine ⟨?_, ?_⟩
      · show Rep s (nF (dX x z)) (nF (dZ x z)) _
        rw [nF_dX, nF_dZ]
        exact k1
      · show Rep s (nF (sX x z u v)) (nF (sZ t x z u v)) _
        rw [nF_sX, nF_sZ]
        exact k2
/-- The point's u; nought at the neutral point. -/
def uO (s : Fp) (P : Pt) : Fp := (1 + P.2) * finv (s * (1 - P.2))
theorem uo_1 (a i c w : Fp) : a * i * (c * w) =
    c * a * (w * i) :=
  ring_fp (a := (fun a i c w : Ex => a * i * (c * w)) (.v 0) (.v 1) (.v 2) (.v 3))
    (b := (fun a i c w : Ex => c * a * (w * i)) (.v 0) (.v 1) (.v 2) (.v 3)) (by kernel_rfl) (at' [a, i, c, w])
theorem uo_2 (c s y : Fp) : c * s * y =
    c * (s * y) :=
  ring_fp (a := (fun c s y : Ex => c * s * y) (.v 0) (.v 1) (.v 2))
    (b := (fun c s y : Ex => c * (s * y)) (.v 0) (.v 1) (.v 2)) (by kernel_rfl) (at' [c, s, y])
theorem rep_u {s X Z : Fp} {P : Pt} (hs : s ≠ 0) (h : Rep s X Z P) : X * finv Z = uO s P := by
  obtain ⟨c, hc, rfl, rfl⟩ := h
  unfold uO
  by_cases h0 : 1 - P.2 = 0
  · rw [h0, fr_mul0, fr_mul0, finv_0, fr_mul0, fr_mul0]
  · have hw : s * (1 - P.2) ≠ 0 := fmul_ne hs h0
    have hz : c * s * (1 - P.2) ≠ 0 := fmul_ne (fmul_ne hc hs) h0
    refine fcanc hz ?_
    have e1 := uo_1 (1 + P.2) (finv (s * (1 - P.2))) c (s * (1 - P.2))
    rw [finv_mul hw, fr_mul1] at e1
    rw [rp_4 (c * (1 + P.2)), finv_mul hz, fr_mul1, uo_2 c s (1 - P.2), e1]
theorem ladV_u {d s : Fp} {P : Pt} {t n : Nat} (h : Par d s) (hP : On d P) (ht : nF t ≠ 0) (hh : Has s (nF t) P.2) (hn : n < 2 ^ 255) : nF (ladV t n) = uO s (smul d n P) := by
  obtain ⟨h1, _⟩ := lad_rep h hP ht hh hn 255 (Nat.le_refl _)
  rw [show n / 2 ^ (255 - 255) = n by simp] at h1
  unfold ladV
  rw [nF_ml, nF_inv]
  exact rep_u h.s0 h1

/-- Half of the field's group order. -/
def he : Nat := (57896044618658097711785492504343953926634992332820282019728792003956564819949 - 1) / 2
theorem he2 : 2 * he = 57896044618658097711785492504343953926634992332820282019728792003956564819949 - 1 := by unfold he; omega
theorem he_lt : he < 2 ^ 255 := by unfold he; omega
theorem powM_sq {x k N : Nat} (h : x ^ N % 57896044618658097711785492504343953926634992332820282019728792003956564819949 = 1) (hk : 2 * k = N) : (x * x) ^ k % 57896044618658097711785492504343953926634992332820282019728792003956564819949 = 1 := by
  rw [← Nat.pow_two, ← Nat.pow_mul, hk]; exact h
theorem ns_of {a : Nat} (ha : a % 57896044618658097711785492504343953926634992332820282019728792003956564819949 ≠ 0) (h : pm 57896044618658097711785492504343953926634992332820282019728792003956564819949 255 a he ≠ 1) : NS (nF a) := fun s hs => by
  rw [pm_eq 57896044618658097711785492504343953926634992332820282019728792003956564819949 255 a he he_lt] at h
  have h1 : s.val * s.val % 57896044618658097711785492504343953926634992332820282019728792003956564819949 = a % 57896044618658097711785492504343953926634992332820282019728792003956564819949 := by
    have := congrArg Fin.val hs
    rwa [Fin.val_mul] at this
  have h0 : s ≠ 0 := fun e => by
    rw [e] at h1
    exact ha (by rw [← h1]; rfl)
  have h2 := powM_sq (genprime_p.fermatE peE (fne_val h0)) (show 2 * he = pe + 1 by rw [he2, peE])
  apply h
  rw [Nat.pow_mod, ← h1, ← Nat.pow_mod]
  exact h2
theorem pmN : ¬ pm 57896044618658097711785492504343953926634992332820282019728792003956564819949 255 (486664 * 486660) he = 1 := by
  have h : pm 57896044618658097711785492504343953926634992332820282019728792003956564819949 255 (486664 * 486660) he = 57896044618658097711785492504343953926634992332820282019728792003956564819949 - 1 := by kernel_rfl
  rw [h]; omega
theorem ns_n : NS ((486664 : Fp) * 486660) := ns_of (a := 486664 * 486660) (by decide) pmN
theorem nF_two (k j : Nat) : nF (2 ^ k) * nF (2 ^ j) = nF (2 ^ (k + j)) := Fin.ext (by
  rw [Fin.val_mul]
  show 2 ^ k % 57896044618658097711785492504343953926634992332820282019728792003956564819949 * (2 ^ j % 57896044618658097711785492504343953926634992332820282019728792003956564819949) % 57896044618658097711785492504343953926634992332820282019728792003956564819949 = 2 ^ (k + j) % 57896044618658097711785492504343953926634992332820282019728792003956564819949
  rw [← Nat.mul_mod, Nat.pow_add])
theorem two_pow {z : Fp} (hz : z ≠ 0) : ∃ i, nF (2 ^ i) = z := by
  obtain ⟨i, _, he⟩ := genprime_p.all (x := z.val) (by
    rcases Nat.eq_zero_or_pos z.val with h | h
    · exact absurd (Fin.ext h) hz
    · exact h) z.isLt
  exact ⟨i, Fin.ext he⟩
theorem odd_of {z : Fp} {i : Nat} (hz : NS z) (h : nF (2 ^ i) = z) : i % 2 = 1 := by
  rcases Nat.mod_two_eq_zero_or_one i with h0 | h0
  · exact absurd (by rw [nF_two, show i / 2 + i / 2 = i by omega, h]) (hz (nF (2 ^ (i / 2))))
  · exact h0
/-- A square, or the product with the one that is none is a square. -/
theorem sq_or {n z : Fp} (hn : NS n) (hn0 : n ≠ 0) (hz : z ≠ 0) : (∃ r, r * r = z) ∨ ∃ r, r * r = n * z := by
  obtain ⟨i, hi⟩ := two_pow hz
  obtain ⟨j, hj⟩ := two_pow hn0
  have hjo := odd_of hn hj
  rcases Nat.mod_two_eq_zero_or_one i with h0 | h0
  · exact .inl ⟨nF (2 ^ (i / 2)), by rw [nF_two, show i / 2 + i / 2 = i by omega, hi]⟩
  · exact .inr ⟨nF (2 ^ ((j + i) / 2)), by rw [nF_two, show (j + i) / 2 + (j + i) / 2 = j + i by omega, ← nF_two, hj, hi]⟩
theorem cP0 : (486664 : Fp) ≠ 0 := by decide
theorem cM0 : (486660 : Fp) ≠ 0 := by decide
def dC : Fp := 486660 * finv 486664
def dT : Fp := 486664 * finv 486660
theorem dC_m : dC * 486664 = 486660 := by unfold dC; rw [fr_can2, finv_mul cP0, fr_mul1]
theorem dT_m : dT * 486660 = 486664 := by unfold dT; rw [fr_can2, finv_mul cM0, fr_mul1]
theorem pa_1 (s d c : Fp) : s * c * (s * c) =
    s * s * c * c :=
  ring_fp (a := (fun s d c : Ex => s * c * (s * c)) (.v 0) (.v 1) (.v 2))
    (b := (fun s d c : Ex => s * s * c * c) (.v 0) (.v 1) (.v 2)) (by kernel_rfl) (at' [s, d, c])
theorem pa_2 (d : Fp) : (486662*1+2)*(1-d) =
    4 + (486660 - d*486664) :=
  ring_fp (a := (fun d : Ex => (486662*1+2)*(1-d)) (.v 0))
    (b := (fun d : Ex => 4 + (486660 - d*486664)) (.v 0)) (by kernel_rfl) (at' [d])
theorem pa_3 (d : Fp) : (486662*(0-1)+2)*(1-d) =
    4 - (486664 - d*486660) :=
  ring_fp (a := (fun d : Ex => (486662*(0-1)+2)*(1-d)) (.v 0))
    (b := (fun d : Ex => 4 - (486664 - d*486660)) (.v 0)) (by kernel_rfl) (at' [d])
theorem par_C : Par dC 1 := by
  refine ⟨fun s hs => ns_n (s * 486664) ?_, fr_mul1 1, ?_⟩
  · rw [pa_1 s 0, hs, dC_m, fr_comm]
  · rw [pa_2, dC_m, fr_self, fr_add0]
theorem par_T : Par dT (0 - 1) := by
  refine ⟨fun s hs => ns_n (s * 486660) ?_, ?_, ?_⟩
  · rw [pa_1 s 0, hs, dT_m]
  · decide
  · rw [pa_3, dT_m, fr_self, fr_sub0]
def qq (t : Fp) : Fp := t * t + 486662 * t + 1
theorem ex_1 (t : Fp) : (2*t+486662)*(2*t+486662) =
    4*(t*t+486662*t+1) + 486664*486660 :=
  ring_fp (a := (fun t : Ex => (2*t+486662)*(2*t+486662)) (.v 0))
    (b := (fun t : Ex => 4*(t*t+486662*t+1) + 486664*486660) (.v 0)) (by kernel_rfl) (at' [t])
theorem ex_2 (a : Fp) : 0 + a =
    a :=
  ring_fp (a := (fun a : Ex => 0 + a) (.v 0))
    (b := (fun a : Ex => a) (.v 0)) (by kernel_rfl) (at' [a])
theorem qq_ne (t : Fp) : qq t ≠ 0 := fun h => by
  have h1 := ex_1 t
  unfold qq at h
  rw [h, fr_mul0, ex_2] at h1
  exact ns_n _ h1
theorem ex_3 (d x y q w c : Fp) : ee d x y * (q*q*(w*w)*c) =
    (x*q)*(x*q)*(w*w)*c + (y*w)*(y*w)*(q*q)*c - q*q*(w*w)*c - (d*c)*((x*q)*(x*q))*((y*w)*(y*w)) :=
  ring_fp (a := (fun d x y q w c : Ex => ee d x y * (q*q*(w*w)*c)) (.v 0) (.v 1) (.v 2) (.v 3) (.v 4) (.v 5))
    (b := (fun d x y q w c : Ex => (x*q)*(x*q)*(w*w)*c + (y*w)*(y*w)*(q*q)*c - q*q*(w*w)*c - (d*c)*((x*q)*(x*q))*((y*w)*(y*w))) (.v 0) (.v 1) (.v 2) (.v 3) (.v 4) (.v 5)) (by kernel_rfl) (at' [d, x, y, q, w, c])
theorem ex_4 (t : Fp) : 486664*(t*(t*t+486662*t+1))*((t+1)*(t+1))*486664 + (t-1)*(t-1)*((t*t+486662*t+1)*(t*t+486662*t+1))*486664 - (t*t+486662*t+1)*(t*t+486662*t+1)*((t+1)*(t+1))*486664 - 486660*(486664*(t*(t*t+486662*t+1)))*((t-1)*(t-1)) =
    0 :=
  ring_fp (a := (fun t : Ex => 486664*(t*(t*t+486662*t+1))*((t+1)*(t+1))*486664 + (t-1)*(t-1)*((t*t+486662*t+1)*(t*t+486662*t+1))*486664 - (t*t+486662*t+1)*(t*t+486662*t+1)*((t+1)*(t+1))*486664 - 486660*(486664*(t*(t*t+486662*t+1)))*((t-1)*(t-1))) (.v 0))
    (b := (fun t : Ex => 0) (.v 0)) (by kernel_rfl) (at' [t])
theorem ex_5 (t : Fp) : 486660*(t*(t*t+486662*t+1))*((t-1)*(t-1))*486660 + (t+1)*(t+1)*((t*t+486662*t+1)*(t*t+486662*t+1))*486660 - (t*t+486662*t+1)*(t*t+486662*t+1)*((t-1)*(t-1))*486660 - 486664*(486660*(t*(t*t+486662*t+1)))*((t+1)*(t+1)) =
    0 :=
  ring_fp (a := (fun t : Ex => 486660*(t*(t*t+486662*t+1))*((t-1)*(t-1))*486660 + (t+1)*(t+1)*((t*t+486662*t+1)*(t*t+486662*t+1))*486660 - (t*t+486662*t+1)*(t*t+486662*t+1)*((t-1)*(t-1))*486660 - 486664*(486660*(t*(t*t+486662*t+1)))*((t+1)*(t+1))) (.v 0))
    (b := (fun t : Ex => 0) (.v 0)) (by kernel_rfl) (at' [t])
theorem ex_6 (t y : Fp) : t*(1*(1-y))*(t+1) =
    t*((t+1)-y*(t+1)) :=
  ring_fp (a := (fun t y : Ex => t*(1*(1-y))*(t+1)) (.v 0) (.v 1))
    (b := (fun t y : Ex => t*((t+1)-y*(t+1))) (.v 0) (.v 1)) (by kernel_rfl) (at' [t, y])
theorem ex_7 (t y : Fp) : (1+y)*(t+1) =
    t+1+y*(t+1) :=
  ring_fp (a := (fun t y : Ex => (1+y)*(t+1)) (.v 0) (.v 1))
    (b := (fun t y : Ex => t+1+y*(t+1)) (.v 0) (.v 1)) (by kernel_rfl) (at' [t, y])
theorem ex_8 (t : Fp) : t*(t+1-(t-1)) =
    t+1+(t-1) :=
  ring_fp (a := (fun t : Ex => t*(t+1-(t-1))) (.v 0))
    (b := (fun t : Ex => t+1+(t-1)) (.v 0)) (by kernel_rfl) (at' [t])
theorem ex_9 (t y : Fp) : t*((0-1)*(1-y))*(t-1) =
    0-t*((t-1)-y*(t-1)) :=
  ring_fp (a := (fun t y : Ex => t*((0-1)*(1-y))*(t-1)) (.v 0) (.v 1))
    (b := (fun t y : Ex => 0-t*((t-1)-y*(t-1))) (.v 0) (.v 1)) (by kernel_rfl) (at' [t, y])
theorem ex_10 (t y : Fp) : (1+y)*(t-1) =
    t-1+y*(t-1) :=
  ring_fp (a := (fun t y : Ex => (1+y)*(t-1)) (.v 0) (.v 1))
    (b := (fun t y : Ex => t-1+y*(t-1)) (.v 0) (.v 1)) (by kernel_rfl) (at' [t, y])
theorem ex_11 (t : Fp) : 0-t*(t-1-(t+1)) =
    t-1+(t+1) :=
  ring_fp (a := (fun t : Ex => 0-t*(t-1-(t+1))) (.v 0))
    (b := (fun t : Ex => t-1+(t+1)) (.v 0)) (by kernel_rfl) (at' [t])
theorem ex_12 (t : Fp) : 486664*(t*(t*t+486662*t+1)) - 486664*486660 =
    (t+1)*486664*(t*t+486661*t-486660) :=
  ring_fp (a := (fun t : Ex => 486664*(t*(t*t+486662*t+1)) - 486664*486660) (.v 0))
    (b := (fun t : Ex => (t+1)*486664*(t*t+486661*t-486660)) (.v 0)) (by kernel_rfl) (at' [t])
theorem ex_13 (t : Fp) : 486660*(t*(t*t+486662*t+1)) - 486664*486660 =
    (t-1)*486660*(t*t+486663*t+486664) :=
  ring_fp (a := (fun t : Ex => 486660*(t*(t*t+486662*t+1)) - 486664*486660) (.v 0))
    (b := (fun t : Ex => (t-1)*486660*(t*t+486663*t+486664)) (.v 0)) (by kernel_rfl) (at' [t])
theorem ex_14 (r i : Fp) : r*i*(r*i) =
    i*i*(r*r) :=
  ring_fp (a := (fun r i : Ex => r*i*(r*i)) (.v 0) (.v 1))
    (b := (fun r i : Ex => i*i*(r*r)) (.v 0) (.v 1)) (by kernel_rfl) (at' [r, i])
theorem ex_15 (i v : Fp) : i*i*(486664*486660*(486664*v)) =
    486660*v*((486664*i)*(486664*i)) :=
  ring_fp (a := (fun i v : Ex => i*i*(486664*486660*(486664*v))) (.v 0) (.v 1))
    (b := (fun i v : Ex => 486660*v*((486664*i)*(486664*i))) (.v 0) (.v 1)) (by kernel_rfl) (at' [i, v])
/-- A number is the u of a point of the curve when this is a square. -/
theorem onC {t r : Fp} (ht : t ≠ 0) (hr : r * r = 486664 * (t * qq t)) : ∃ P, On dC P ∧ Has 1 t P.2 := by
  have hq := qq_ne t
  have hw : t + 1 ≠ 0 := fun h0 => by
    refine ns_n r ?_
    rw [hr]
    refine f_of_sub ?_
    have h1 := ex_12 t
    rw [h0, fr_0mul, fr_0mul] at h1
    exact h1
  have hx : r * finv (qq t) * qq t = r := by rw [fr_can2, finv_mul hq, fr_mul1]
  have hy : (t - 1) * finv (t + 1) * (t + 1) = t - 1 := by rw [fr_can2, finv_mul hw, fr_mul1]
  refine ⟨(r * finv (qq t), (t - 1) * finv (t + 1)), ?_, ?_⟩
  · have h1 := ex_3 dC (r * finv (qq t)) ((t - 1) * finv (t + 1)) (qq t) (t + 1) 486664
    rw [hx, hy, dC_m, hr] at h1
    unfold qq at h1
    rw [ex_4] at h1
    exact (fmul_eq0 h1).resolve_right (fmul_ne (fmul_ne (fmul_ne hq hq) (fmul_ne hw hw)) cP0)
  · show t * (1 * (1 - (t - 1) * finv (t + 1))) = 1 + (t - 1) * finv (t + 1)
    refine fcanc hw ?_
    rw [ex_6, ex_7, hy, ex_8]
/-- And of the twist when this is. -/
theorem onT {t g : Fp} (ht : t ≠ 0) (hr2 : g * g = 486660 * (t * qq t)) : ∃ P, On dT P ∧ Has (0 - 1) t P.2 := by
  have hq := qq_ne t
  have hw : t - 1 ≠ 0 := fun h0 => by
    refine ns_n g ?_
    rw [hr2]
    refine f_of_sub ?_
    have h1 := ex_13 t
    rw [h0, fr_0mul, fr_0mul] at h1
    exact h1
  have hx : g * finv (qq t) * qq t = g := by rw [fr_can2, finv_mul hq, fr_mul1]
  have hy : (t + 1) * finv (t - 1) * (t - 1) = t + 1 := by rw [fr_can2, finv_mul hw, fr_mul1]
  refine ⟨(g * finv (qq t), (t + 1) * finv (t - 1)), ?_, ?_⟩
  · have h1 := ex_3 dT (g * finv (qq t)) ((t + 1) * finv (t - 1)) (qq t) (t - 1) 486660
    rw [hx, hy, dT_m, hr2] at h1
    unfold qq at h1
    rw [ex_5] at h1
    exact (fmul_eq0 h1).resolve_right (fmul_ne (fmul_ne (fmul_ne hq hq) (fmul_ne hw hw)) cM0)
  · show t * ((0 - 1) * (1 - (t + 1) * finv (t - 1))) = 1 + (t + 1) * finv (t - 1)
    refine fcanc hw ?_
    rw [ex_9, ex_10, hy, ex_11]
/-- The curve or its twist. -/
def CT (d s : Fp) : Prop := (d = dC ∧ s = 1) ∨ (d = dT ∧ s = 0 - 1)
theorem CT.par {d s : Fp} (h : CT d s) : Par d s := by
  rcases h with ⟨rfl, rfl⟩ | ⟨rfl, rfl⟩
  · exact par_C
  · exact par_T
/-- Each number but nought is the u of a point of the curve or of its twist. -/
theorem ex_pt {t : Fp} (ht : t ≠ 0) : ∃ d s P, CT d s ∧ On d P ∧ Has s t P.2 := by
  rcases sq_or ns_n (fmul_ne cP0 cM0) (fmul_ne cP0 (fmul_ne ht (qq_ne t))) with ⟨r, hr⟩ | ⟨r, hr⟩
  · obtain ⟨P, h1, h2⟩ := onC ht hr
    exact ⟨dC, 1, P, .inl ⟨rfl, rfl⟩, h1, h2⟩
  · have hr2 : r * finv 486664 * (r * finv 486664) = 486660 * (t * qq t) := by
      rw [ex_14, hr, ex_15, finv_mul cP0, fr_mul1, fr_mul1]
    obtain ⟨P, h1, h2⟩ := onT ht hr2
    exact ⟨dT, 0 - 1, P, .inr ⟨rfl, rfl⟩, h1, h2⟩
end Go.Sx

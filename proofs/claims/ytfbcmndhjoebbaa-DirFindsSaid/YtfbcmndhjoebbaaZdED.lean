import Derived.Test.YtfbcmndhjoebbaaZdEC
set_option linter.unusedVariables false
set_option linter.unusedSimpArgs false
/-
  The ladder's step on an Edwards curve: doubling, and adding points whose difference is known. No condition but those told.
-/
namespace Go.Sx
open Go Go.Proofs

/-- The curve's number d, and the sign s by which it is the curve (1) or its twist (-1). -/
structure Par (d s : Fp) : Prop where
  ns : NS d
  ss : s * s = 1
  bb : (486662 * s + 2) * (1 - d) = 4
theorem Par.s0 {d s : Fp} (h : Par d s) : s ≠ 0 := fun h0 => by
  have := h.ss
  rw [h0, fr_mul0] at this
  exact f_one this.symm
theorem f_four : (4 : Fp) ≠ 0 := by decide
theorem f_16 : (16 : Fp) ≠ 0 := by decide
theorem Par.b0 {d s : Fp} (h : Par d s) : 486662 * s + 2 ≠ 0 := fun h0 => by
  have := h.bb
  rw [h0, fr_0mul] at this
  exact f_four this.symm
theorem Par.d1 {d s : Fp} (h : Par d s) : 1 - d ≠ 0 := fun h0 => by
  have := h.bb
  rw [h0, fr_mul0] at this
  exact f_four this.symm
/-- X over Z is the point's u. -/
def Rep (s X Z : Fp) (P : Pt) : Prop := ∃ c, c ≠ 0 ∧ X = c * (1 + P.2) ∧ Z = c * s * (1 - P.2)
theorem rp_1 (c s a b : Fp) : c * a * (s * b) =
    c * s * b * a :=
  ring_fp (a := (fun c s a b : Ex => c * a * (s * b)) (.v 0) (.v 1) (.v 2) (.v 3))
    (b := (fun c s a b : Ex => c * s * b * a) (.v 0) (.v 1) (.v 2) (.v 3)) (by kernel_rfl) (at' [c, s, a, b])
theorem rp_2 (y : Fp) : 1 - y =
    2 - (1 + y) :=
  ring_fp (a := (fun y : Ex => 1 - y) (.v 0))
    (b := (fun y : Ex => 2 - (1 + y)) (.v 0)) (by kernel_rfl) (at' [y])
theorem rp_3 (z i s y : Fp) : z * i * s * y =
    z * (s * y * i) :=
  ring_fp (a := (fun z i s y : Ex => z * i * s * y) (.v 0) (.v 1) (.v 2) (.v 3))
    (b := (fun z i s y : Ex => z * (s * y * i)) (.v 0) (.v 1) (.v 2) (.v 3)) (by kernel_rfl) (at' [z, i, s, y])
theorem rp_4 (x i y : Fp) : x * i * y =
    x * (y * i) :=
  ring_fp (a := (fun x i y : Ex => x * i * y) (.v 0) (.v 1) (.v 2))
    (b := (fun x i y : Ex => x * (y * i)) (.v 0) (.v 1) (.v 2)) (by kernel_rfl) (at' [x, i, y])
theorem rep_of {s X Z : Fp} {P : Pt} (hs : s ≠ 0) (h : X * (s * (1 - P.2)) = Z * (1 + P.2)) (h0 : ¬ (X = 0 ∧ Z = 0)) : Rep s X Z P := by
  by_cases h1 : 1 + P.2 = 0
  · have h2 : 1 - P.2 = 2 := by rw [rp_2, h1, fr_sub0]
    rw [h1, fr_mul0, h2] at h
    have hX : X = 0 := (fmul_eq0 h).resolve_right (fmul_ne hs f_two)
    have hZ : Z ≠ 0 := fun hz => h0 ⟨hX, hz⟩
    have h3 : s * 2 ≠ 0 := fmul_ne hs f_two
    refine ⟨Z * finv (s * 2), fmul_ne hZ (fun hi => ?_), ?_, ?_⟩
    · have := finv_mul h3
      rw [hi, fr_mul0] at this
      exact f_one this.symm
    · rw [h1, fr_mul0, hX]
    · rw [h2, rp_3, finv_mul h3, fr_mul1]
  · have e1 : X = X * finv (1 + P.2) * (1 + P.2) := by rw [rp_4, finv_mul h1, fr_mul1]
    have e2 : Z = X * finv (1 + P.2) * s * (1 - P.2) := by
      refine fcanc h1 ?_
      rw [← h, ← rp_1, ← e1]
    refine ⟨X * finv (1 + P.2), fun hc => ?_, e1, e2⟩
    rw [hc, fr_0mul] at e1
    rw [hc, fr_0mul, fr_0mul] at e2
    exact h0 ⟨e1, e2⟩
def gX (X Z : Fp) : Fp := (X + Z) * (X + Z) * ((X - Z) * (X - Z))
def gE (X Z : Fp) : Fp := (X + Z) * (X + Z) - (X - Z) * (X - Z)
def gZ (X Z : Fp) : Fp := gE X Z * ((X + Z) * (X + Z) + 121665 * gE X Z)
theorem dx_1 (c s y : Fp) : (c*(1+y)+c*s*(1-y))*(c*(1+y)+c*s*(1-y))*((c*(1+y)-c*s*(1-y))*(c*(1+y)-c*s*(1-y))) =
    (c*c*((1+y)*(1+y)-s*s*((1-y)*(1-y))))*(c*c*((1+y)*(1+y)-s*s*((1-y)*(1-y)))) :=
  ring_fp (a := (fun c s y : Ex => (c*(1+y)+c*s*(1-y))*(c*(1+y)+c*s*(1-y))*((c*(1+y)-c*s*(1-y))*(c*(1+y)-c*s*(1-y)))) (.v 0) (.v 1) (.v 2))
    (b := (fun c s y : Ex => (c*c*((1+y)*(1+y)-s*s*((1-y)*(1-y))))*(c*c*((1+y)*(1+y)-s*s*((1-y)*(1-y))))) (.v 0) (.v 1) (.v 2)) (by kernel_rfl) (at' [c, s, y])
theorem dx_2 (c y : Fp) : (c*c*((1+y)*(1+y)-1*((1-y)*(1-y))))*(c*c*((1+y)*(1+y)-1*((1-y)*(1-y)))) =
    16*(c*c*(c*c))*(y*y) :=
  ring_fp (a := (fun c y : Ex => (c*c*((1+y)*(1+y)-1*((1-y)*(1-y))))*(c*c*((1+y)*(1+y)-1*((1-y)*(1-y))))) (.v 0) (.v 1))
    (b := (fun c y : Ex => 16*(c*c*(c*c))*(y*y)) (.v 0) (.v 1)) (by kernel_rfl) (at' [c, y])
theorem dz_1 (c s y : Fp) : ((c*(1+y)+c*s*(1-y))*(c*(1+y)+c*s*(1-y))-(c*(1+y)-c*s*(1-y))*(c*(1+y)-c*s*(1-y)))*((c*(1+y)+c*s*(1-y))*(c*(1+y)+c*s*(1-y))+121665*((c*(1+y)+c*s*(1-y))*(c*(1+y)+c*s*(1-y))-(c*(1+y)-c*s*(1-y))*(c*(1+y)-c*s*(1-y)))) =
    4*(c*c)*s*(1-y*y)*(c*c*((1+y)*(1+y)+s*s*((1-y)*(1-y))+486662*s*(1-y*y))) :=
  ring_fp (a := (fun c s y : Ex => ((c*(1+y)+c*s*(1-y))*(c*(1+y)+c*s*(1-y))-(c*(1+y)-c*s*(1-y))*(c*(1+y)-c*s*(1-y)))*((c*(1+y)+c*s*(1-y))*(c*(1+y)+c*s*(1-y))+121665*((c*(1+y)+c*s*(1-y))*(c*(1+y)+c*s*(1-y))-(c*(1+y)-c*s*(1-y))*(c*(1+y)-c*s*(1-y))))) (.v 0) (.v 1) (.v 2))
    (b := (fun c s y : Ex => 4*(c*c)*s*(1-y*y)*(c*c*((1+y)*(1+y)+s*s*((1-y)*(1-y))+486662*s*(1-y*y)))) (.v 0) (.v 1) (.v 2)) (by kernel_rfl) (at' [c, s, y])
theorem dz_2 (c s y d : Fp) : 4*(c*c)*s*(1-y*y)*(c*c*((1+y)*(1+y)+1*((1-y)*(1-y))+486662*s*(1-y*y))) =
    4*(c*c*(c*c))*s*(1-y*y)*(486662*s+2)*(1-d*(y*y)) + 4*(c*c*(c*c))*s*(1-y*y)*(y*y)*(4-(486662*s+2)*(1-d)) :=
  ring_fp (a := (fun c s y d : Ex => 4*(c*c)*s*(1-y*y)*(c*c*((1+y)*(1+y)+1*((1-y)*(1-y))+486662*s*(1-y*y)))) (.v 0) (.v 1) (.v 2) (.v 3))
    (b := (fun c s y d : Ex => 4*(c*c*(c*c))*s*(1-y*y)*(486662*s+2)*(1-d*(y*y)) + 4*(c*c*(c*c))*s*(1-y*y)*(y*y)*(4-(486662*s+2)*(1-d))) (.v 0) (.v 1) (.v 2) (.v 3)) (by kernel_rfl) (at' [c, s, y, d])
theorem gX_c {d s : Fp} (h : Par d s) (c y : Fp) : gX (c * (1 + y)) (c * s * (1 - y)) = 16*(c*c*(c*c))*(y*y) := by
  unfold gX
  rw [dx_1, h.ss, dx_2]
theorem gZ_c {d s : Fp} (h : Par d s) (c y : Fp) : gZ (c * (1 + y)) (c * s * (1 - y)) = 4*(c*c*(c*c))*s*(1-y*y)*(486662*s+2)*(1-d*(y*y)) := by
  unfold gZ gE
  rw [dz_1, h.ss, dz_2 c s y d, h.bb, fr_self, fr_mul0, fr_add0]
theorem db_1 (k s y m v : Fp) : 16*k*(y*y)*(s*(1-v))*m =
    16*k*(y*y)*(s*(m-v*m)) :=
  ring_fp (a := (fun k s y m v : Ex => 16*k*(y*y)*(s*(1-v))*m) (.v 0) (.v 1) (.v 2) (.v 3) (.v 4))
    (b := (fun k s y m v : Ex => 16*k*(y*y)*(s*(m-v*m))) (.v 0) (.v 1) (.v 2) (.v 3) (.v 4)) (by kernel_rfl) (at' [k, s, y, m, v])
theorem db_2 (z m v : Fp) : z*(1+v)*m =
    z*(m+v*m) :=
  ring_fp (a := (fun z m v : Ex => z*(1+v)*m) (.v 0) (.v 1) (.v 2))
    (b := (fun z m v : Ex => z*(m+v*m)) (.v 0) (.v 1) (.v 2)) (by kernel_rfl) (at' [z, m, v])
theorem db_3 (k s x y d b : Fp) : 16*k*(y*y)*(s*(1-d*(x*x*y*y)-(y*y-x*x))) - 4*k*s*(1-y*y)*b*(1-d*(y*y))*(1-d*(x*x*y*y)+(y*y-x*x)) =
    (16*k*(y*y)*s+8*k*s*(1-y*y)*b-4*k*s*(1-y*y)*b*(1-d*(y*y)))*ee d x y + 8*k*s*(y*y)*(1-y*y)*(4-b*(1-d)) :=
  ring_fp (a := (fun k s x y d b : Ex => 16*k*(y*y)*(s*(1-d*(x*x*y*y)-(y*y-x*x))) - 4*k*s*(1-y*y)*b*(1-d*(y*y))*(1-d*(x*x*y*y)+(y*y-x*x))) (.v 0) (.v 1) (.v 2) (.v 3) (.v 4) (.v 5))
    (b := (fun k s x y d b : Ex => (16*k*(y*y)*s+8*k*s*(1-y*y)*b-4*k*s*(1-y*y)*b*(1-d*(y*y)))*ee d x y + 8*k*s*(y*y)*(1-y*y)*(4-b*(1-d))) (.v 0) (.v 1) (.v 2) (.v 3) (.v 4) (.v 5)) (by kernel_rfl) (at' [k, s, x, y, d, b])
theorem rep_dbl {d s X Z : Fp} {P : Pt} (h : Par d s) (hP : On d P) (hr : Rep s X Z P) : Rep s (gX X Z) (gZ X Z) (padd d P P) := by
  obtain ⟨c, hc, rfl, rfl⟩ := hr
  have hk : c * c * (c * c) ≠ 0 := fmul_ne (fmul_ne hc hc) (fmul_ne hc hc)
  refine rep_of h.s0 ?_ ?_
  · rw [gX_c h, gZ_c h]
    refine fcanc (dm_ne h.ns hP hP) ?_
    rw [db_1, db_2, padd_y h.ns hP hP]
    have h1 := db_3 (c * c * (c * c)) s P.1 P.2 d (486662 * s + 2)
    rw [hP, h.bb, fr_self, fr_mul0, fr_mul0, fr_add0] at h1
    exact f_of_sub h1
  · rw [gX_c h, gZ_c h]
    rintro ⟨h1, h2⟩
    have h3 : P.2 * P.2 = 0 := (fmul_eq0 h1).resolve_left (fmul_ne f_16 hk)
    rw [h3, fr_mul0, fr_sub0, fr_mul1, fr_mul1] at h2
    exact fmul_ne (fmul_ne (fmul_ne f_four hk) h.s0) h.b0 h2

def hA (X Z U V : Fp) : Fp := (U - V) * (X + Z)
def hB (X Z U V : Fp) : Fp := (U + V) * (X - Z)
def hX (X Z U V : Fp) : Fp := (hA X Z U V + hB X Z U V) * (hA X Z U V + hB X Z U V)
def hZ (t X Z U V : Fp) : Fp := t * ((hA X Z U V - hB X Z U V) * (hA X Z U V - hB X Z U V))
theorem ax_1 (c e s a b : Fp) : (e*(1+b)-e*s*(1-b))*(c*(1+a)+c*s*(1-a))+(e*(1+b)+e*s*(1-b))*(c*(1+a)-c*s*(1-a)) =
    2*(c*e)*((1+a)*(1+b)-s*s*((1-a)*(1-b))) :=
  ring_fp (a := (fun c e s a b : Ex => (e*(1+b)-e*s*(1-b))*(c*(1+a)+c*s*(1-a))+(e*(1+b)+e*s*(1-b))*(c*(1+a)-c*s*(1-a))) (.v 0) (.v 1) (.v 2) (.v 3) (.v 4))
    (b := (fun c e s a b : Ex => 2*(c*e)*((1+a)*(1+b)-s*s*((1-a)*(1-b)))) (.v 0) (.v 1) (.v 2) (.v 3) (.v 4)) (by kernel_rfl) (at' [c, e, s, a, b])
theorem ax_2 (c e a b : Fp) : 2*(c*e)*((1+a)*(1+b)-1*((1-a)*(1-b))) =
    4*(c*e)*(a+b) :=
  ring_fp (a := (fun c e a b : Ex => 2*(c*e)*((1+a)*(1+b)-1*((1-a)*(1-b)))) (.v 0) (.v 1) (.v 2) (.v 3))
    (b := (fun c e a b : Ex => 4*(c*e)*(a+b)) (.v 0) (.v 1) (.v 2) (.v 3)) (by kernel_rfl) (at' [c, e, a, b])
theorem az_1 (c e s a b : Fp) : (e*(1+b)-e*s*(1-b))*(c*(1+a)+c*s*(1-a))-(e*(1+b)+e*s*(1-b))*(c*(1+a)-c*s*(1-a)) =
    4*(c*e)*(b-a)*s :=
  ring_fp (a := (fun c e s a b : Ex => (e*(1+b)-e*s*(1-b))*(c*(1+a)+c*s*(1-a))-(e*(1+b)+e*s*(1-b))*(c*(1+a)-c*s*(1-a))) (.v 0) (.v 1) (.v 2) (.v 3) (.v 4))
    (b := (fun c e s a b : Ex => 4*(c*e)*(b-a)*s) (.v 0) (.v 1) (.v 2) (.v 3) (.v 4)) (by kernel_rfl) (at' [c, e, s, a, b])
theorem az_2 (t k a b s : Fp) : t*(k*(b-a)*s*(k*(b-a)*s)) =
    t*(k*k)*((b-a)*(b-a))*(s*s) :=
  ring_fp (a := (fun t k a b s : Ex => t*(k*(b-a)*s*(k*(b-a)*s))) (.v 0) (.v 1) (.v 2) (.v 3) (.v 4))
    (b := (fun t k a b s : Ex => t*(k*k)*((b-a)*(b-a))*(s*s)) (.v 0) (.v 1) (.v 2) (.v 3) (.v 4)) (by kernel_rfl) (at' [t, k, a, b, s])
theorem ax_3 (k a b : Fp) : k*(a+b)*(k*(a+b)) =
    k*k*((a+b)*(a+b)) :=
  ring_fp (a := (fun k a b : Ex => k*(a+b)*(k*(a+b))) (.v 0) (.v 1) (.v 2))
    (b := (fun k a b : Ex => k*k*((a+b)*(a+b))) (.v 0) (.v 1) (.v 2)) (by kernel_rfl) (at' [k, a, b])
theorem hX_c {d s : Fp} (h : Par d s) (c e a b : Fp) : hX (c*(1+a)) (c*s*(1-a)) (e*(1+b)) (e*s*(1-b)) = 4*(c*e)*(4*(c*e))*((a+b)*(a+b)) := by
  unfold hX hA hB
  rw [ax_1, h.ss, ax_2, ax_3]
theorem hZ_c {d s : Fp} (h : Par d s) (t c e a b : Fp) : hZ t (c*(1+a)) (c*s*(1-a)) (e*(1+b)) (e*s*(1-b)) = t*(4*(c*e)*(4*(c*e)))*((b-a)*(b-a)) := by
  unfold hZ hA hB
  rw [az_1, az_2, h.ss, fr_mul1]
theorem ad_1 (k g s v m w n : Fp) : k*g*(s*(1-v))*(m*((1-w)*n)) =
    k*s*((m-v*m)*(n-w*n)*g) :=
  ring_fp (a := (fun k g s v m w n : Ex => k*g*(s*(1-v))*(m*((1-w)*n))) (.v 0) (.v 1) (.v 2) (.v 3) (.v 4) (.v 5) (.v 6))
    (b := (fun k g s v m w n : Ex => k*s*((m-v*m)*(n-w*n)*g)) (.v 0) (.v 1) (.v 2) (.v 3) (.v 4) (.v 5) (.v 6)) (by kernel_rfl) (at' [k, g, s, v, m, w, n])
theorem ad_2 (k g t v m w n s : Fp) : t*k*g*(1+v)*(m*((1-w)*n)) =
    k*(t*(1-w))*((m+v*m)*n*g) :=
  ring_fp (a := (fun k g t v m w n s : Ex => t*k*g*(1+v)*(m*((1-w)*n))) (.v 0) (.v 1) (.v 2) (.v 3) (.v 4) (.v 5) (.v 6) (.v 7))
    (b := (fun k g t v m w n s : Ex => k*(t*(1-w))*((m+v*m)*n*g)) (.v 0) (.v 1) (.v 2) (.v 3) (.v 4) (.v 5) (.v 6) (.v 7)) (by kernel_rfl) (at' [k, g, t, v, m, w, n, s])
theorem ad_3 (t s w : Fp) : t*(s*(1-w))*s =
    t*(1-w)*(s*s) :=
  ring_fp (a := (fun t s w : Ex => t*(s*(1-w))*s) (.v 0) (.v 1) (.v 2))
    (b := (fun t s w : Ex => t*(1-w)*(s*s)) (.v 0) (.v 1) (.v 2)) (by kernel_rfl) (at' [t, s, w])
theorem ad_4 (k s m w n g : Fp) : k*((1+w)*s)*(m*n*g) =
    k*s*(m*(n+w*n)*g) :=
  ring_fp (a := (fun k s m w n g : Ex => k*((1+w)*s)*(m*n*g)) (.v 0) (.v 1) (.v 2) (.v 3) (.v 4) (.v 5))
    (b := (fun k s m w n g : Ex => k*s*(m*(n+w*n)*g)) (.v 0) (.v 1) (.v 2) (.v 3) (.v 4) (.v 5)) (by kernel_rfl) (at' [k, s, m, w, n, g])
theorem ad_5 (x y : Fp) : (x-y)*(x-y) =
    (y-x)*(y-x) :=
  ring_fp (a := (fun x y : Ex => (x-y)*(x-y)) (.v 0) (.v 1))
    (b := (fun x y : Ex => (y-x)*(y-x)) (.v 0) (.v 1)) (by kernel_rfl) (at' [x, y])
theorem ad_6 (d x y a b : Fp) : 1 - d*(x*(0-y)*a*b) =
    1+d*(y*x*b*a) :=
  ring_fp (a := (fun d x y a b : Ex => 1 - d*(x*(0-y)*a*b)) (.v 0) (.v 1) (.v 2) (.v 3) (.v 4))
    (b := (fun d x y a b : Ex => 1+d*(y*x*b*a)) (.v 0) (.v 1) (.v 2) (.v 3) (.v 4)) (by kernel_rfl) (at' [d, x, y, a, b])
theorem ad_7 (x y a b : Fp) : a*b-x*(0-y) =
    b*a+y*x :=
  ring_fp (a := (fun x y a b : Ex => a*b-x*(0-y)) (.v 0) (.v 1) (.v 2) (.v 3))
    (b := (fun x y a b : Ex => b*a+y*x) (.v 0) (.v 1) (.v 2) (.v 3)) (by kernel_rfl) (at' [x, y, a, b])
theorem ad_8 (d x1 x2 y1 y2 : Fp) : (1-d*(x1*x2*y1*y2)+(y1*y2-x1*x2))*(1+d*(x1*x2*y1*y2)+(y1*y2+x1*x2))*((y1-y2)*(y1-y2)) - (1-d*(x1*x2*y1*y2)-(y1*y2-x1*x2))*(1+d*(x1*x2*y1*y2)-(y1*y2+x1*x2))*((y1+y2)*(y1+y2)) =
    (1-d*(x1*x2*y1*y2)+y1*y2-x1*x2)*(1+d*(x1*x2*y1*y2)+y1*y2+x1*x2)*((y1-y2)*(y1-y2)) - (1-d*(x1*x2*y1*y2)-y1*y2+x1*x2)*(1+d*(x1*x2*y1*y2)-y1*y2-x1*x2)*((y1+y2)*(y1+y2)) :=
  ring_fp (a := (fun d x1 x2 y1 y2 : Ex => (1-d*(x1*x2*y1*y2)+(y1*y2-x1*x2))*(1+d*(x1*x2*y1*y2)+(y1*y2+x1*x2))*((y1-y2)*(y1-y2)) - (1-d*(x1*x2*y1*y2)-(y1*y2-x1*x2))*(1+d*(x1*x2*y1*y2)-(y1*y2+x1*x2))*((y1+y2)*(y1+y2))) (.v 0) (.v 1) (.v 2) (.v 3) (.v 4))
    (b := (fun d x1 x2 y1 y2 : Ex => (1-d*(x1*x2*y1*y2)+y1*y2-x1*x2)*(1+d*(x1*x2*y1*y2)+y1*y2+x1*x2)*((y1-y2)*(y1-y2)) - (1-d*(x1*x2*y1*y2)-y1*y2+x1*x2)*(1+d*(x1*x2*y1*y2)-y1*y2-x1*x2)*((y1+y2)*(y1+y2))) (.v 0) (.v 1) (.v 2) (.v 3) (.v 4)) (by kernel_rfl) (at' [d, x1, x2, y1, y2])
theorem ad_9 (d x : Fp) : ee d x 0 =
    x*x-1 :=
  ring_fp (a := (fun d x : Ex => ee d x 0) (.v 0) (.v 1))
    (b := (fun d x : Ex => x*x-1) (.v 0) (.v 1)) (by kernel_rfl) (at' [d, x])
theorem ad_10 (w : Fp) : w*w-1 =
    (1+w)*(w-1) :=
  ring_fp (a := (fun w : Ex => w*w-1) (.v 0))
    (b := (fun w : Ex => (1+w)*(w-1)) (.v 0)) (by kernel_rfl) (at' [w])
theorem ad_11 (x y : Fp) : x*y*(x*y) =
    x*x*(y*y) :=
  ring_fp (a := (fun x y : Ex => x*y*(x*y)) (.v 0) (.v 1))
    (b := (fun x y : Ex => x*x*(y*y)) (.v 0) (.v 1)) (by kernel_rfl) (at' [x, y])
theorem ad_12 (d x y a : Fp) : 1+d*(y*x*a*0) =
    1 :=
  ring_fp (a := (fun d x y a : Ex => 1+d*(y*x*a*0)) (.v 0) (.v 1) (.v 2) (.v 3))
    (b := (fun d x y a : Ex => 1) (.v 0) (.v 1) (.v 2) (.v 3)) (by kernel_rfl) (at' [d, x, y, a])
theorem ad_13 (x y : Fp) : 0*0+y*x =
    y*x :=
  ring_fp (a := (fun x y : Ex => 0*0+y*x) (.v 0) (.v 1))
    (b := (fun x y : Ex => y*x) (.v 0) (.v 1)) (by kernel_rfl) (at' [x, y])
theorem ad_14 (a b : Fp) : b - a + (a + b) =
    2*b :=
  ring_fp (a := (fun a b : Ex => b - a + (a + b)) (.v 0) (.v 1))
    (b := (fun a b : Ex => 2*b) (.v 0) (.v 1)) (by kernel_rfl) (at' [a, b])
theorem ad_15 (a : Fp) : a + 0 =
    a :=
  ring_fp (a := (fun a : Ex => a + 0) (.v 0))
    (b := (fun a : Ex => a) (.v 0)) (by kernel_rfl) (at' [a])
theorem ad_16 (w : Fp) : 1 - w =
    0 - (w - 1) :=
  ring_fp (a := (fun w : Ex => 1 - w) (.v 0))
    (b := (fun w : Ex => 0 - (w - 1)) (.v 0)) (by kernel_rfl) (at' [w])
theorem fsq0 {a : Fp} (h : a * a = 0) : a = 0 := (fmul_eq0 h).elim id id
/-- The point's u is t. -/
def Has (s t y : Fp) : Prop := t * (s * (1 - y)) = 1 + y
theorem Has.ne {s t y : Fp} (h : Has s t y) : 1 - y ≠ 0 := fun h1 => by
  have h2 : 1 + y = 0 := by rw [← h, h1, fr_mul0, fr_mul0]
  rw [rp_2, h2, fr_sub0] at h1
  exact f_two h1
theorem Has.pos {s t y : Fp} (h : Has s t y) (hs : s ≠ 0) (ht : t ≠ 0) : 1 + y ≠ 0 := fun h1 => by
  have h2 := h
  unfold Has at h2
  rw [h1] at h2
  exact fmul_ne ht (fmul_ne hs h.ne) h2
theorem rep_add {d s t x z u v : Fp} {Q S : Pt} (h : Par d s) (hQ : On d Q) (hS : On d S) (ht : t ≠ 0) (hh : Has s t (padd d S (pneg Q)).2) (hq : Rep s x z Q) (hs : Rep s u v S) : Rep s (hX x z u v) (hZ t x z u v) (padd d Q S) := by
  obtain ⟨c, hc, rfl, rfl⟩ := hq
  obtain ⟨e, he, rfl, rfl⟩ := hs
  have hk : 4 * (c * e) * (4 * (c * e)) ≠ 0 := fmul_ne (fmul_ne f_four (fmul_ne hc he)) (fmul_ne f_four (fmul_ne hc he))
  have hnQ := pneg_on hQ
  have hw := padd_y h.ns hS hnQ
  have hv := padd_y h.ns hQ hS
  have hwn := dm_ne h.ns hS hnQ
  have hvn := dm_ne h.ns hQ hS
  generalize (padd d S (pneg Q)).2 = w at hw hh
  have e1 : dm d S (pneg Q) = 1 + d * (Q.1 * S.1 * Q.2 * S.2) := ad_6 d S.1 Q.1 S.2 Q.2
  have e2 : S.2 * (pneg Q).2 - S.1 * (pneg Q).1 = Q.2 * S.2 + Q.1 * S.1 := ad_7 S.1 Q.1 S.2 Q.2
  rw [e1, e2] at hw
  rw [e1] at hwn
  refine rep_of h.s0 ?_ ?_
  · rw [hX_c h, hZ_c h]
    refine fcanc (fmul_ne hvn (fmul_ne hh.ne hwn)) ?_
    have e3 : t * (1 - w) = (1 + w) * s := by
      have h1 := ad_3 t s w
      rw [h.ss, fr_mul1] at h1
      rw [← h1]
      show t * (s * (1 - w)) * s = _
      rw [hh]
    rw [ad_1, ad_2 _ _ _ _ _ _ _ s, e3, ad_4, hv, hw]
    have h2 := diffadd d Q.1 Q.2 S.1 S.2
    rw [hQ, hS, fr_mul0, fr_mul0, fr_add0, ← ad_8] at h2
    have h3 := f_of_sub h2
    unfold dm
    rw [← h3, ad_5 S.2 Q.2]
  · rw [hX_c h, hZ_c h]
    rintro ⟨h1, h2⟩
    have h3 := fsq0 ((fmul_eq0 h1).resolve_left hk)
    have h4 := fsq0 ((fmul_eq0 h2).resolve_left (fmul_ne ht hk))
    have h5 := ad_14 Q.2 S.2
    rw [h3, h4, fr_add0] at h5
    have h6 : S.2 = 0 := (fmul_eq0 h5.symm).resolve_left f_two
    rw [h6, ad_15] at h3
    have q1 : Q.1 * Q.1 - 1 = 0 := by
      have k := hQ
      unfold On at k
      rw [h3, ad_9] at k
      exact k
    have q2 : S.1 * S.1 - 1 = 0 := by
      have k := hS
      unfold On at k
      rw [h6, ad_9] at k
      exact k
    rw [h6, h3, ad_12, fr_mul1, ad_13] at hw
    have h7 : (1 + w) * (w - 1) = 0 := by
      rw [← ad_10, hw, ad_11, f_of_sub q1, f_of_sub q2, fr_mul1, fr_self]
    refine hh.ne ?_
    rw [ad_16, (fmul_eq0 h7).resolve_left (hh.pos h.s0 ht), fr_self]
theorem pn_1 (d x y a b : Fp) : 1 - d*(x*(0-y)*a*b) =
    1 - d*(y*(0-x)*b*a) :=
  ring_fp (a := (fun d x y a b : Ex => 1 - d*(x*(0-y)*a*b)) (.v 0) (.v 1) (.v 2) (.v 3) (.v 4))
    (b := (fun d x y a b : Ex => 1 - d*(y*(0-x)*b*a)) (.v 0) (.v 1) (.v 2) (.v 3) (.v 4)) (by kernel_rfl) (at' [d, x, y, a, b])
theorem pn_2 (x y a b : Fp) : a*b-x*(0-y) =
    b*a-y*(0-x) :=
  ring_fp (a := (fun x y a b : Ex => a*b-x*(0-y)) (.v 0) (.v 1) (.v 2) (.v 3))
    (b := (fun x y a b : Ex => b*a-y*(0-x)) (.v 0) (.v 1) (.v 2) (.v 3)) (by kernel_rfl) (at' [x, y, a, b])
theorem padd_negy (d : Fp) (Q S : Pt) : (padd d S (pneg Q)).2 = (padd d Q (pneg S)).2 := by
  show (S.2 * Q.2 - S.1 * (0 - Q.1)) * finv (1 - d * (S.1 * (0 - Q.1) * S.2 * Q.2)) = (Q.2 * S.2 - Q.1 * (0 - S.1)) * finv (1 - d * (Q.1 * (0 - S.1) * Q.2 * S.2))
  rw [pn_1, pn_2]
/-- The ladder's step keeps its word. -/
theorem diff_smul {d s : Fp} {P : Pt} (h : Par d s) (hP : On d P) (m : Nat) : padd d (smul d (m + 1) P) (pneg (smul d m P)) = P := by
  have h1 := smul_on h.ns hP m
  show padd d (padd d (smul d m P) P) (pneg (smul d m P)) = P
  rw [padd_comm d (smul d m P) P, padd_assoc h.ns hP h1 (pneg_on h1), padd_neg h.ns h1, padd_0]
theorem step_0 {d s t x z u v : Fp} {P : Pt} {m : Nat} (h : Par d s) (hP : On d P) (ht : t ≠ 0) (hh : Has s t P.2) (h1 : Rep s x z (smul d m P)) (h2 : Rep s u v (smul d (m + 1) P)) :
    Rep s (gX x z) (gZ x z) (smul d (2 * m) P) ∧ Rep s (hX x z u v) (hZ t x z u v) (smul d (2 * m + 1) P) := by
  have o1 := smul_on h.ns hP m
  have o2 := smul_on h.ns hP (m + 1)
  constructor
  · have := rep_dbl h o1 h1
    rw [← smul_add h.ns hP, ← Nat.two_mul] at this
    exact this
  · have := rep_add h o1 o2 ht (by rw [diff_smul h hP]; exact hh) h1 h2
    rw [← smul_add h.ns hP, show m + (m + 1) = 2 * m + 1 by omega] at this
    exact this
theorem step_1 {d s t x z u v : Fp} {P : Pt} {m : Nat} (h : Par d s) (hP : On d P) (ht : t ≠ 0) (hh : Has s t P.2) (h1 : Rep s x z (smul d m P)) (h2 : Rep s u v (smul d (m + 1) P)) :
    Rep s (hX u v x z) (hZ t u v x z) (smul d (2 * m + 1) P) ∧ Rep s (gX u v) (gZ u v) (smul d (2 * m + 1 + 1) P) := by
  have o1 := smul_on h.ns hP m
  have o2 := smul_on h.ns hP (m + 1)
  constructor
  · have := rep_add h o2 o1 ht (by rw [padd_negy, diff_smul h hP]; exact hh) h2 h1
    rw [← smul_add h.ns hP, show m + 1 + m = 2 * m + 1 by omega] at this
    exact this
  · have := rep_dbl h o2 h2
    rw [← smul_add h.ns hP, show m + 1 + (m + 1) = 2 * m + 1 + 1 by omega] at this
    exact this
end Go.Sx

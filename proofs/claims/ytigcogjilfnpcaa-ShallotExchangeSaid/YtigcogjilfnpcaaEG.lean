import Derived.Test.YtigcogjilfnpcaaEF
set_option linter.unusedVariables false
set_option linter.unusedSimpArgs false
/-
  The points of a curve are counted: the orders of the curve and of its twist, and so a point comes to nought with one scalar just if it does with every other one. No condition but those told.
-/
namespace Go.Sx
open Go Go.Proofs

section
variable {d : Fp}
theorem ct_1 (d x y : Fp) : ee d x y =
    x*x*(1-d*(y*y)) - (1-y*y) :=
  ring_fp (a := (fun d x y : Ex => ee d x y) (.v 0) (.v 1) (.v 2))
    (b := (fun d x y : Ex => x*x*(1-d*(y*y)) - (1-y*y)) (.v 0) (.v 1) (.v 2)) (by kernel_rfl) (at' [d, x, y])
theorem ct_2 (x z w c : Fp) : (x*x*w - c) - (z*z*w - c) =
    (x-z)*(x-(0-z))*w :=
  ring_fp (a := (fun x z w c : Ex => (x*x*w - c) - (z*z*w - c)) (.v 0) (.v 1) (.v 2) (.v 3))
    (b := (fun x z w c : Ex => (x-z)*(x-(0-z))*w) (.v 0) (.v 1) (.v 2) (.v 3)) (by kernel_rfl) (at' [x, z, w, c])
theorem ct_3 (y d : Fp) : 1*1 - d*(y*y) =
    1 - d*(y*y) :=
  ring_fp (a := (fun y d : Ex => 1*1 - d*(y*y)) (.v 0) (.v 1))
    (b := (fun y d : Ex => 1 - d*(y*y)) (.v 0) (.v 1)) (by kernel_rfl) (at' [y, d])
theorem ct_4 (d : Fp) : 1 - d*(0*0) =
    1 :=
  ring_fp (a := (fun d : Ex => 1 - d*(0*0)) (.v 0))
    (b := (fun d : Ex => 1) (.v 0)) (by kernel_rfl) (at' [d])
theorem den_y (hd : NS d) (y : Fp) : 1 - d * (y * y) ≠ 0 := fun h => by
  have h1 := no_sq hd (a := 1) (w := y) (by rw [ct_3, h])
  rw [h1, ct_4] at h
  exact f_one h
theorem two_x (hd : NS d) {x z y : Fp} (h1 : ee d x y = 0) (h2 : ee d z y = 0) : x = z ∨ x = 0 - z := by
  rw [ct_1] at h1 h2
  have h3 := ct_2 x z (1 - d * (y * y)) (1 - y * y)
  rw [h1, h2, fr_self] at h3
  rcases fmul_eq0 ((fmul_eq0 h3.symm).resolve_right (den_y hd y)) with h | h
  · exact .inl (f_of_sub h)
  · exact .inr (f_of_sub h)
theorem xsol (hd : NS d) (y : Fp) : ∃ X : List Fp, X.Nodup ∧ (∀ x, x ∈ X ↔ ee d x y = 0) ∧ X.length ≤ 2 := by
  by_cases h : ∃ z, ee d z y = 0
  · obtain ⟨z, hz⟩ := h
    have hn : ee d (0 - z) y = 0 := by rw [on_n]; exact hz
    by_cases hzz : z = 0 - z
    · refine ⟨[z], by simp, fun x => ⟨fun hx => ?_, fun hx => ?_⟩, by simp⟩
      · rw [List.mem_singleton.1 hx]; exact hz
      · refine List.mem_singleton.2 ?_
        rcases two_x hd hx hz with h1 | h1
        · exact h1
        · exact h1.trans hzz.symm
    · refine ⟨[z, 0 - z], ?_, fun x => ⟨fun hx => ?_, fun hx => ?_⟩, by simp⟩
      · rw [List.nodup_cons]
        exact ⟨fun h1 => hzz (List.mem_singleton.1 h1), by simp⟩
      · rcases List.mem_cons.1 hx with h1 | h1
        · rw [h1]; exact hz
        · rw [List.mem_singleton.1 h1]; exact hn
      · rcases two_x hd hx hz with h1 | h1
        · rw [h1]; exact List.mem_cons_self
        · rw [h1]; exact List.mem_cons_of_mem _ (List.mem_singleton.2 rfl)
  · exact ⟨[], List.nodup_nil, fun x => ⟨fun hx => by simp at hx, fun hx => absurd ⟨x, hx⟩ h⟩, by simp⟩
theorem rowPts (X : List Fp) (hX : X.Nodup) (y : Fp) : ∃ L : List Pt, L.Nodup ∧ (∀ P, P ∈ L ↔ P.1 ∈ X ∧ P.2 = y) ∧ L.length = X.length := by
  induction X with
  | nil => exact ⟨[], List.nodup_nil, fun P => by simp, rfl⟩
  | cons x r ih =>
    rw [List.nodup_cons] at hX
    obtain ⟨L, h1, h2, h3⟩ := ih hX.2
    refine ⟨(x, y) :: L, ?_, fun P => ?_, by simp [h3]⟩
    · rw [List.nodup_cons]
      exact ⟨fun h => hX.1 ((h2 _).1 h).1, h1⟩
    · rw [List.mem_cons, h2, List.mem_cons]
      constructor
      · rintro (h | h)
        · rw [h]; exact ⟨.inl rfl, rfl⟩
        · exact ⟨.inr h.1, h.2⟩
      · rintro ⟨h | h, e⟩
        · exact .inl (Prod.ext h e)
        · exact .inr ⟨h, e⟩
theorem ptsOf (hd : NS d) (Y : List Fp) (hY : Y.Nodup) : ∃ L : List Pt, L.Nodup ∧ (∀ P, P ∈ L ↔ P.2 ∈ Y ∧ On d P) ∧ L.length ≤ 2 * Y.length := by
  induction Y with
  | nil => exact ⟨[], List.nodup_nil, fun P => by simp, by simp⟩
  | cons y r ih =>
    rw [List.nodup_cons] at hY
    obtain ⟨L, h1, h2, h3⟩ := ih hY.2
    obtain ⟨X, x1, x2, x3⟩ := xsol hd y
    obtain ⟨K, k1, k2, k3⟩ := rowPts X x1 y
    refine ⟨K ++ L, ?_, fun P => ?_, by simp; omega⟩
    · rw [List.nodup_append]
      refine ⟨k1, h1, fun a ha b hb e => hY.1 ?_⟩
      subst e
      rw [← ((k2 a).1 ha).2]
      exact ((h2 a).1 hb).1
    · rw [List.mem_append, k2, h2, List.mem_cons, x2]
      constructor
      · rintro (⟨h, e⟩ | ⟨h, e⟩)
        · refine ⟨.inl e, ?_⟩
          unfold On
          rw [e]; exact h
        · exact ⟨.inr h, e⟩
      · rintro ⟨e | h, ho⟩
        · refine .inl ⟨?_, e⟩
          rw [← e]; exact ho
        · exact .inr ⟨h, ho⟩
theorem allFp : ∃ Y : List Fp, Y.Nodup ∧ (∀ y, y ∈ Y) ∧ Y.length = 57896044618658097711785492504343953926634992332820282019728792003956564819949 := ⟨List.finRange _, List.nodup_finRange _, List.mem_finRange, List.length_finRange⟩
theorem allPts (hd : NS d) : ∃ L : List Pt, L.Nodup ∧ (∀ P, P ∈ L ↔ On d P) ∧ L.length ≤ 2 * 57896044618658097711785492504343953926634992332820282019728792003956564819949 := by
  obtain ⟨Y, y1, y2, y3⟩ := allFp
  obtain ⟨L, h1, h2, h3⟩ := ptsOf hd Y y1
  rw [y3] at h3
  exact ⟨L, h1, fun P => by rw [h2]; exact ⟨fun h => h.2, fun h => ⟨y2 _, h⟩⟩, h3⟩
def psum (d : Fp) : List Pt → Pt
  | [] => pO
  | P :: r => padd d P (psum d r)
theorem psum_on (hd : NS d) : ∀ {L : List Pt}, (∀ P ∈ L, On d P) → On d (psum d L)
  | [], _ => pO_on d
  | P :: r, h => padd_on hd (h P (by simp)) (psum_on hd fun Q hQ => h Q (List.mem_cons_of_mem _ hQ))
theorem padd_left (hd : NS d) {A B C : Pt} (hA : On d A) (hB : On d B) (hC : On d C) : padd d A (padd d B C) = padd d B (padd d A C) := by
  rw [← padd_assoc hd hA hB hC, padd_comm d A B, padd_assoc hd hB hA hC]
theorem psum_mid (hd : NS d) : ∀ {s t : List Pt} {P : Pt}, (∀ Q ∈ s ++ P :: t, On d Q) → psum d (s ++ P :: t) = padd d P (psum d (s ++ t))
  | [], _, _, _ => rfl
  | A :: s, t, P, h => by
    have h1 : ∀ Q ∈ s ++ P :: t, On d Q := fun Q hQ => h Q (List.mem_cons_of_mem _ hQ)
    have h2 : ∀ Q ∈ s ++ t, On d Q := fun Q hQ => h1 Q (by
      rcases List.mem_append.1 hQ with h3 | h3
      · exact List.mem_append_left _ h3
      · exact List.mem_append_right _ (List.mem_cons_of_mem _ h3))
    show padd d A (psum d (s ++ P :: t)) = padd d P (padd d A (psum d (s ++ t)))
    rw [psum_mid hd h1, padd_left hd (h A (by simp)) (h1 P (by simp)) (psum_on hd h2)]
theorem psum_eq (hd : NS d) : ∀ {L K : List Pt}, L.Nodup → K.Nodup → (∀ P, P ∈ L ↔ P ∈ K) → (∀ P ∈ L, On d P) → psum d L = psum d K
  | [], K, _, _, h, _ => by
    cases K with
    | nil => rfl
    | cons a r => exact absurd ((h a).2 (by simp)) (by simp)
  | A :: r, K, hL, hK, h, ho => by
    rw [List.nodup_cons] at hL
    obtain ⟨s, t, rfl⟩ := List.append_of_mem ((h A).1 (by simp))
    have ho2 : ∀ P ∈ s ++ A :: t, On d P := fun P hP => ho P ((h P).2 hP)
    rw [psum_mid hd ho2]
    show padd d A (psum d r) = _
    have hK2 := hK
    rw [List.nodup_append, List.nodup_cons] at hK2
    obtain ⟨k1, ⟨k2, k3⟩, k4⟩ := hK2
    have hAs : A ∉ s ++ t := fun hA => by
      rcases List.mem_append.1 hA with h1 | h1
      · exact k4 A h1 A (by simp) rfl
      · exact k2 h1
    rw [psum_eq hd (L := r) (K := s ++ t) hL.2 (by
      rw [List.nodup_append]
      exact ⟨k1, k3, fun a ha b hb => k4 a ha b (List.mem_cons_of_mem _ hb)⟩) (fun P => ?_) (fun P hP => ho P (List.mem_cons_of_mem _ hP))]
    constructor
    · intro hP
      have h1 := (h P).1 (List.mem_cons_of_mem _ hP)
      rcases List.mem_append.1 h1 with h2 | h2
      · exact List.mem_append_left _ h2
      · rcases List.mem_cons.1 h2 with h3 | h3
        · subst h3; exact absurd hP hL.1
        · exact List.mem_append_right _ h3
    · intro hP
      have h1 : P ∈ s ++ A :: t := by
        rcases List.mem_append.1 hP with h2 | h2
        · exact List.mem_append_left _ h2
        · exact List.mem_append_right _ (List.mem_cons_of_mem _ h2)
      rcases List.mem_cons.1 ((h P).2 h1) with h2 | h2
      · subst h2; exact absurd hP hAs
      · exact h2
theorem padd_canc (hd : NS d) {A B Q : Pt} (hA : On d A) (hB : On d B) (hQ : On d Q) (h : padd d A Q = padd d B Q) : A = B := by
  have h1 : padd d (padd d A Q) (pneg Q) = padd d (padd d B Q) (pneg Q) := by rw [h]
  rw [padd_assoc hd hA hQ (pneg_on hQ), padd_assoc hd hB hQ (pneg_on hQ), padd_neg hd hQ, padd_0, padd_0] at h1
  exact h1
theorem psum_map (hd : NS d) {Q : Pt} (hQ : On d Q) : ∀ {L : List Pt}, (∀ P ∈ L, On d P) → psum d (L.map fun P => padd d P Q) = padd d (psum d L) (smul d L.length Q)
  | [], _ => (padd_0 d pO).symm
  | P :: r, h => by
    have hr : ∀ A ∈ r, On d A := fun A hA => h A (List.mem_cons_of_mem _ hA)
    have hP := h P (by simp)
    have hs := psum_on hd hr
    have hn := smul_on hd hQ r.length
    show padd d (padd d P Q) (psum d (r.map fun P => padd d P Q)) = padd d (padd d P (psum d r)) (padd d (smul d r.length Q) Q)
    rw [psum_map hd hQ hr, padd_assoc hd hP hQ (padd_on hd hs hn), padd_assoc hd hP hs (padd_on hd hn hQ), padd_left hd hQ hs hn, padd_comm d Q]
theorem nodup_map (hd : NS d) {Q : Pt} (hQ : On d Q) : ∀ {L : List Pt}, L.Nodup → (∀ P ∈ L, On d P) → (L.map fun P => padd d P Q).Nodup
  | [], _, _ => List.nodup_nil
  | P :: r, hL, h => by
    rw [List.nodup_cons] at hL
    rw [List.map_cons, List.nodup_cons]
    have hr : ∀ A ∈ r, On d A := fun A hA => h A (List.mem_cons_of_mem _ hA)
    refine ⟨fun hm => ?_, nodup_map hd hQ hL.2 hr⟩
    obtain ⟨A, hA, e⟩ := List.mem_map.1 hm
    have := padd_canc hd (hr A hA) (h P (by simp)) hQ e
    subst this
    exact hL.1 hA
/-- The number of points brings each point to the neutral one. -/
theorem ord_all (hd : NS d) : ∃ N, 0 < N ∧ N ≤ 2 * 57896044618658097711785492504343953926634992332820282019728792003956564819949 ∧ ∀ Q, On d Q → smul d N Q = pO := by
  obtain ⟨L, h1, h2, h3⟩ := allPts hd
  have ho : ∀ P ∈ L, On d P := fun P hP => (h2 P).1 hP
  refine ⟨L.length, List.length_pos_of_mem ((h2 pO).2 (pO_on d)), h3, fun Q hQ => ?_⟩
  have e1 := psum_map hd hQ ho
  have e2 := psum_eq hd (L := L) (K := L.map fun P => padd d P Q) h1 (nodup_map hd hQ h1 ho) (fun P => by
    rw [List.mem_map]
    constructor
    · intro hP
      have hoP := ho P hP
      refine ⟨padd d P (pneg Q), (h2 _).2 (padd_on hd hoP (pneg_on hQ)), ?_⟩
      rw [padd_assoc hd hoP (pneg_on hQ) hQ, padd_comm d (pneg Q), padd_neg hd hQ, padd_0]
    · rintro ⟨A, hA, rfl⟩
      exact (h2 _).2 (padd_on hd (ho A hA) hQ)) ho
  rw [e1] at e2
  have hs := psum_on hd ho
  have hn := smul_on hd hQ L.length
  refine padd_canc hd hn (pO_on d) hs ?_
  rw [padd_0', padd_comm, ← e2]
end

/-- The order of the twist's big group. -/
def elt : Nat := 14474011154664524427946373126085988481603263447650325797860494125407373907997
theorem elt_pr : Pr elt := lp14474011154664524427946373126085988481603263447650325797860494125407373907997
theorem pnt_C (t : Nat) (r : Fp) (ht : nF t ≠ 0) (hr : r * r = 486664 * (nF t * qq (nF t))) : ∃ P, Pnt t dC 1 P := by
  obtain ⟨P, h1, h2⟩ := onC ht hr
  exact ⟨P, .inl ⟨rfl, rfl⟩, h1, h2⟩
theorem pnt_T (t : Nat) (r : Fp) (ht : nF t ≠ 0) (hr : r * r = 486660 * (nF t * qq (nF t))) : ∃ P, Pnt t dT (0 - 1) P := by
  obtain ⟨P, h1, h2⟩ := onT ht hr
  exact ⟨P, .inr ⟨rfl, rfl⟩, h1, h2⟩
def t8 : Nat := 325606250916557431795983626356110631294008115727848805560023387167927233504
theorem pnt_9 : ∃ P, Pnt 9 dC 1 P := pnt_C 9 19064736306394604176756831583228493861740168685505007583090099800049781144880 (by decide) (by decide +kernel)
theorem pnt_8 : ∃ P, Pnt t8 dC 1 P := pnt_C t8 40161112695214918572261100550566652686581358499707476476307212361030844997359 (by decide +kernel) (by decide +kernel)
theorem pnt_4 : ∃ P, Pnt (57896044618658097711785492504343953926634992332820282019728792003956564819949 - 1) dT (0 - 1) P := pnt_T (57896044618658097711785492504343953926634992332820282019728792003956564819949 - 1) 486660 (by decide +kernel) (by decide +kernel)
theorem pnt_2 : ∃ P, Pnt 2 dT (0 - 1) P := pnt_T 2 28545624661975380957375143044056595084148389027171530615925386200861213783627 (by decide) (by decide +kernel)
theorem la_8a : ladV t8 4 = 0 := by
  unfold ladV
  rw [inv_pm]
  kernel_rfl
theorem la_8b : ladV t8 2 = 1 := by
  unfold ladV
  rw [inv_pm]
  kernel_rfl
theorem la_4a : ladV (57896044618658097711785492504343953926634992332820282019728792003956564819949 - 1) 2 = 0 := by
  unfold ladV
  rw [inv_pm]
  kernel_rfl
theorem la_4b : ladV (57896044618658097711785492504343953926634992332820282019728792003956564819949 - 1) 1 = 57896044618658097711785492504343953926634992332820282019728792003956564819949 - 1 := by
  unfold ladV
  rw [inv_pm]
  kernel_rfl
theorem la_2a : ladV 2 (4 * elt) = 0 := by
  unfold ladV
  rw [inv_pm]
  kernel_rfl
theorem la_2b : (ladV 2 4 == 0) = false := by
  unfold ladV
  rw [inv_pm]
  kernel_rfl
theorem dvd_8 {N : Nat} (h : ¬ 8 ∣ N) : Nat.gcd N 8 ∣ 4 := by
  have h1 := Nat.gcd_dvd_right N 8
  have h2 := Nat.gcd_dvd_left N 8
  have h3 : Nat.gcd N 8 ≤ 8 := Nat.le_of_dvd (by omega) h1
  generalize Nat.gcd N 8 = g at h1 h2 h3
  have h4 : g = 0 ∨ g = 1 ∨ g = 2 ∨ g = 3 ∨ g = 4 ∨ g = 5 ∨ g = 6 ∨ g = 7 ∨ g = 8 := by omega
  rcases h4 with rfl | rfl | rfl | rfl | rfl | rfl | rfl | rfl | rfl <;> first | decide | (exact absurd h1 (by decide)) | exact absurd h2 h
theorem dvd_4 {N : Nat} (h : ¬ 4 ∣ N) : Nat.gcd N 4 ∣ 2 := by
  have h1 := Nat.gcd_dvd_right N 4
  have h2 := Nat.gcd_dvd_left N 4
  have h3 : Nat.gcd N 4 ≤ 4 := Nat.le_of_dvd (by omega) h1
  generalize Nat.gcd N 4 = g at h1 h2 h3
  have h4 : g = 0 ∨ g = 1 ∨ g = 2 ∨ g = 3 ∨ g = 4 := by omega
  rcases h4 with rfl | rfl | rfl | rfl | rfl <;> first | decide | (exact absurd h1 (by decide)) | exact absurd h2 h
theorem Pr.gcd2 {q a N : Nat} (h : Pr q) (hn : ¬ q ∣ N) : Nat.gcd N (a * q) ∣ a := by
  have h1 : Nat.Coprime (Nat.gcd N (a * q)) q := by
    refine h.cop (fun hd => hn (Nat.dvd_trans hd (Nat.gcd_dvd_left _ _)))
  exact h1.dvd_of_dvd_mul_right (Nat.gcd_dvd_right N (a * q))
theorem Pr.join {q a N : Nat} (h : Pr q) (ha : a ∣ N) (hq : q ∣ N) (hqa : ¬ q ∣ a) : a * q ∣ N := by
  obtain ⟨c, rfl⟩ := hq
  have h1 : Nat.Coprime a q := h.cop hqa
  obtain ⟨e, rfl⟩ := h1.dvd_of_dvd_mul_left ha
  exact ⟨e, by rw [Nat.mul_left_comm, ← Nat.mul_assoc]⟩
theorem full_C : ∀ Q, On dC Q → smul dC (8 * ell) Q = pO := by
  obtain ⟨N, n1, n2, n3⟩ := ord_all par_C.ns
  obtain ⟨P8, h8⟩ := pnt_8
  obtain ⟨P9, h9⟩ := pnt_9
  have d8 : 8 ∣ N := by
    by_cases h : 8 ∣ N
    · exact h
    · exfalso
      have e1 := (h8.zero (by decide +kernel) (n := 4) (by omega)).1 la_8a
      have e2 := smul_dvd par_C.ns h8.on (dvd_8 h) (smul_gcd par_C.ns h8.on _ _ (n3 _ h8.on) e1)
      have e3 := (h8.zero (by decide +kernel) (n := 2) (by omega)).2 e2
      rw [la_8b] at e3
      cases e3
  have dl : ell ∣ N := by
    by_cases h : ell ∣ N
    · exact h
    · exfalso
      have e1 := (h9.zero nF_9 ell_lt).1 lad_ell
      have e2 := smul_dvd par_C.ns h9.on (ell_pr.gcd2 h) (smul_gcd par_C.ns h9.on _ _ (n3 _ h9.on) e1)
      have e3 := (h9.zero nF_9 (n := 1) (by omega)).2 e2
      rw [lad_9_1] at e3
      cases e3
  obtain ⟨j, hj⟩ := ell_pr.join d8 dl ell_8
  have : j = 1 := by
    rcases Nat.lt_or_ge j 2 with h | h
    · have : j ≠ 0 := fun h0 => by subst h0; omega
      omega
    · have h1 := Nat.mul_le_mul_left (8 * ell) h
      rw [← hj] at h1
      unfold ell at h1
      omega
  subst this
  rw [Nat.mul_one] at hj
  rw [← hj]
  exact n3
theorem elt_4 : ¬ elt ∣ 4 := by unfold elt; decide
theorem full_T : ∀ Q, On dT Q → smul dT (8 * elt) Q = pO := by
  obtain ⟨N, n1, n2, n3⟩ := ord_all par_T.ns
  obtain ⟨P4, h4⟩ := pnt_4
  obtain ⟨P2, h2⟩ := pnt_2
  have d4 : 4 ∣ N := by
    by_cases h : 4 ∣ N
    · exact h
    · exfalso
      have e1 := (h4.zero (by decide +kernel) (n := 2) (by omega)).1 la_4a
      have e2 := smul_dvd par_T.ns h4.on (dvd_4 h) (smul_gcd par_T.ns h4.on _ _ (n3 _ h4.on) e1)
      have e3 := (h4.zero (by decide +kernel) (n := 1) (by omega)).2 e2
      rw [la_4b] at e3
      omega
  have dl : elt ∣ N := by
    by_cases h : elt ∣ N
    · exact h
    · exfalso
      have e1 := (h2.zero (by decide) (n := 4 * elt) (by unfold elt; omega)).1 la_2a
      rw [← Nat.mul_assoc] at e1
      have e2 := smul_dvd par_T.ns h2.on (elt_pr.gcd2 h) (smul_gcd par_T.ns h2.on _ _ (n3 _ h2.on) e1)
      have e3 := (h2.zero (by decide) (n := 4) (by omega)).2 e2
      have e4 := la_2b
      rw [e3] at e4
      cases e4
  obtain ⟨j, hj⟩ := elt_pr.join d4 dl elt_4
  have hj2 : j = 1 ∨ j = 2 := by
    rcases Nat.lt_or_ge j 3 with h | h
    · have : j ≠ 0 := fun h0 => by subst h0; omega
      omega
    · have h1 := Nat.mul_le_mul_left (4 * elt) h
      rw [← hj] at h1
      unfold elt at h1
      omega
  intro Q hQ
  refine smul_dvd par_T.ns hQ ?_ (n3 Q hQ)
  rw [hj]
  rcases hj2 with rfl | rfl
  · exact ⟨2, by omega⟩
  · exact ⟨1, by omega⟩
theorem elt_8 : ¬ elt ∣ 8 := by unfold elt; decide
theorem Clm.two {k : Nat} (h : Clm k) : ∃ m, 2 * k = 8 * (2 * m) ∧ ¬ ell ∣ 2 * m ∧ ¬ elt ∣ 2 * m := by
  obtain ⟨⟨m, rfl⟩, h1, h2⟩ := h
  refine ⟨m, by omega, fun hd => ?_, fun hd => ?_⟩
  · have := ell_pr.mul (a := 2) (b := m) (by unfold ell; decide) (fun hd => by
      have := Nat.le_of_dvd (by omega) hd
      unfold ell at this
      omega)
    exact this hd
  · have := elt_pr.mul (a := 2) (b := m) (by unfold elt; decide) (fun hd => by
      have := Nat.le_of_dvd (by omega) hd
      unfold elt at this
      omega)
    exact this hd
/-- Nought with one scalar is the neutral point after eight. -/
theorem low_8 {t : Nat} {d s : Fp} {P : Pt} (h : Pnt t d s P) (ht : nF t ≠ 0) {k : Nat} (hk : Clm k) (h0 : ladV t k = 0) : smul d 8 P = pO := by
  have e1 := (h.zero ht hk.2.1).1 h0
  obtain ⟨m, hm, m1, m2⟩ := hk.two
  rw [hm] at e1
  have hns := h.par.ns
  have hon := h.on
  rcases h.ct with ⟨rfl, rfl⟩ | ⟨rfl, rfl⟩
  · have e2 := smul_gcd hns hon _ _ e1 (full_C _ hon)
    rwa [Nat.gcd_mul_left, ell_pr.cop m1] at e2
  · have e2 := smul_gcd hns hon _ _ e1 (full_T _ hon)
    rwa [Nat.gcd_mul_left, elt_pr.cop m2] at e2
/-- A point comes to nought with one scalar just if it does with every other one. -/
theorem low_iff {t a b : Nat} (ha : Clm a) (hb : Clm b) (h : ladV t a = 0) : ladV t b = 0 := by
  by_cases ht : nF t = 0
  · exact ladV_0 ht b
  · obtain ⟨d, s, P, hp⟩ := ex_pnt ht
    have h8 := low_8 hp ht ha h
    refine (hp.zero ht hb.2.1).2 (smul_dvd hp.par.ns hp.on ?_ h8)
    exact Nat.dvd_trans hb.1 ⟨2, by omega⟩
end Go.Sx

import Derived.Test.YtfbcmndhjoebbaaZdGFC
set_option linter.unusedVariables false
set_option linter.unusedSimpArgs false
/-
  Primes by certificate: a number has a generator of order n - 1; then it is prime, and Fermat's law holds. No condition but those told.
-/
namespace Go.Sx
open Go Go.Proofs

def Pr (n : Nat) : Prop := 1 < n ∧ ∀ d, d ∣ n → d = 1 ∨ d = n
theorem pow_mod_one {n g a : Nat} (h1 : 1 < n) (h : g ^ a % n = 1) (k : Nat) : (g ^ a) ^ k % n = 1 := by
  rw [Nat.pow_mod, h, Nat.one_pow, Nat.mod_eq_of_lt h1]
theorem pow_gcd {n g : Nat} (h1 : 1 < n) (a b : Nat) : g ^ a % n = 1 → g ^ b % n = 1 → g ^ (Nat.gcd a b) % n = 1 := by
  refine Nat.gcd.induction (P := fun a b => g ^ a % n = 1 → g ^ b % n = 1 → g ^ (Nat.gcd a b) % n = 1) a b ?_ ?_
  · intro b _ hb
    rwa [Nat.gcd_zero_left]
  · intro m b hm ih ha hb
    rw [Nat.gcd_rec]
    refine ih ?_ ha
    have h2 : g ^ b = (g ^ m) ^ (b / m) * g ^ (b % m) := by
      rw [← Nat.pow_mul, ← Nat.pow_add, Nat.div_add_mod]
    rw [h2, Nat.mul_mod, pow_mod_one h1 ha, Nat.one_mul, Nat.mod_mod] at hb
    exact hb
def prodL : List Nat → Nat
  | [] => 1
  | q :: r => q * prodL r
theorem cop_prod {m : Nat} : ∀ {qs : List Nat}, (∀ q ∈ qs, Nat.gcd m q = 1) → Nat.gcd m (prodL qs) = 1
  | [], _ => Nat.gcd_one_right m
  | q :: r, h => Nat.Coprime.mul_right (h q (by simp)) (cop_prod fun x hx => h x (List.mem_cons_of_mem _ hx))
theorem prime_of_dvd {m : Nat} (hm : 1 < m) {qs : List Nat} (hq : ∀ q ∈ qs, Pr q) (hd : m ∣ prodL qs) : ∃ q ∈ qs, q ∣ m := by
  by_cases h : ∃ q ∈ qs, q ∣ m
  · exact h
  · have h2 : Nat.gcd m (prodL qs) = 1 := cop_prod fun q hqm => by
      rcases (hq q hqm).2 _ (Nat.gcd_dvd_right m q) with h3 | h3
      · exact h3
      · exact absurd ⟨q, hqm, by rw [← h3]; exact Nat.gcd_dvd_left m q⟩ h
    have h3 : Nat.gcd m (prodL qs) = m := Nat.gcd_eq_left hd
    omega
theorem dvd_part {d N : Nat} (hN : 0 < N) (hd : d ∣ N) (hne : d ≠ N) {qs : List Nat} (hq : ∀ q ∈ qs, Pr q) (hp : prodL qs = N) : ∃ q ∈ qs, d ∣ N / q := by
  obtain ⟨m, hm⟩ := hd
  have hm1 : 1 < m := by
    rcases Nat.lt_or_ge 1 m with h | h
    · exact h
    · have : m = 0 ∨ m = 1 := by omega
      rcases this with rfl | rfl
      · omega
      · omega
  obtain ⟨q, hqm, k, hk⟩ := prime_of_dvd hm1 hq (by rw [hp, hm]; exact Nat.dvd_mul_left m d)
  have hq0 := (hq q hqm).1
  refine ⟨q, hqm, k, ?_⟩
  rw [hm, hk, show d * (q * k) = q * (d * k) by rw [Nat.mul_left_comm], Nat.mul_div_cancel_left _ (by omega)]
theorem pigeonN : ∀ (N : Nat) (f : Nat → Nat), (∀ i, i < N → f i < N) → (∀ i j, i < N → j < N → f i = f j → i = j) → ∀ x, x < N → ∃ i, i < N ∧ f i = x
  | 0, _, _, _, x, hx => by omega
  | N + 1, f, hlt, hinj, x, hx => by
    have ih := pigeonN N (fun i => if f i = N then f N else f i) (fun i hi => by
      have h1 := hlt i (by omega)
      have h2 := hlt N (by omega)
      split
      · rename_i h
        have : f N ≠ N := fun h3 => by have := hinj i N (by omega) (by omega) (by rw [h, h3]); omega
        omega
      · omega) (fun i j hi hj h => by
      have hn : ∀ k, k < N → f k ≠ f N := fun k hk h3 => by have := hinj k N (by omega) (by omega) h3; omega
      split at h
      · rename_i h1
        split at h
        · rename_i h2; exact hinj i j (by omega) (by omega) (by rw [h1, h2])
        · exact absurd h.symm (hn j hj)
      · split at h
        · exact absurd h (hn i hi)
        · exact hinj i j (by omega) (by omega) h)
    by_cases hy : x = f N
    · exact ⟨N, by omega, hy.symm⟩
    · by_cases hN : x = N
      · have h2 := hlt N (by omega)
        obtain ⟨i, hi, h⟩ := ih (f N) (by omega)
        split at h
        · rename_i h1; exact ⟨i, by omega, by rw [h1, hN]⟩
        · have := hinj i N (by omega) (by omega) h; omega
      · obtain ⟨i, hi, h⟩ := ih x (by omega)
        split at h
        · exact absurd h.symm hy
        · exact ⟨i, by omega, h⟩
section
variable {n g : Nat} {qs : List Nat}
/-- g has the order n - 1 modulo n. -/
structure Gen (n g : Nat) : Prop where
  big : 1 < n
  one : g ^ (n - 1) % n = 1
  min : ∀ d, 0 < d → d < n - 1 → g ^ d % n ≠ 1
theorem gen_of (h1 : 1 < n) (hq : ∀ q ∈ qs, Pr q) (hp : prodL qs = n - 1) (hg : g ^ (n - 1) % n = 1) (hne : ∀ q ∈ qs, g ^ ((n - 1) / q) % n ≠ 1) : Gen n g := by
  refine ⟨h1, hg, fun d hd hlt h => ?_⟩
  have h2 := pow_gcd h1 d (n - 1) h hg
  have hle := Nat.gcd_le_left (n - 1) hd
  obtain ⟨q, hqm, k, hk⟩ := dvd_part (by omega) (Nat.gcd_dvd_right d (n - 1)) (by omega) hq hp
  refine hne q hqm ?_
  rw [hk, Nat.pow_mul]
  exact pow_mod_one h1 h2 k
theorem Gen.inj (h : Gen n g) {i j : Nat} (hij : i < j) (hj : j < n - 1) : g ^ i % n ≠ g ^ j % n := fun he => by
  refine h.min (j - i) (by omega) (by omega) ?_
  have h1 : g ^ j * g ^ (n - 1 - i) = g ^ (n - 1) * g ^ (j - i) := by rw [← Nat.pow_add, ← Nat.pow_add]; congr 1; omega
  have h2 : g ^ i * g ^ (n - 1 - i) = g ^ (n - 1) := by rw [← Nat.pow_add]; congr 1; omega
  have h3 : g ^ (n - 1) * g ^ (j - i) % n = 1 := by
    rw [← h1, Nat.mul_mod, ← he, ← Nat.mul_mod, h2]; exact h.one
  rwa [Nat.mul_mod, h.one, Nat.one_mul, Nat.mod_mod] at h3
theorem Gen.pos (h : Gen n g) {i : Nat} (hi : i < n - 1) : 0 < g ^ i % n := by
  rcases Nat.eq_zero_or_pos (g ^ i % n) with h0 | h0
  · have h2 : g ^ i * g ^ (n - 1 - i) = g ^ (n - 1) := by rw [← Nat.pow_add]; congr 1; omega
    have h3 := h.one
    rw [← h2, Nat.mul_mod, h0, Nat.zero_mul, Nat.zero_mod] at h3
    cases h3
  · exact h0
/-- Each number that is not nought is a power. -/
theorem Gen.all (h : Gen n g) {x : Nat} (h0 : 0 < x) (hx : x < n) : ∃ i, i < n - 1 ∧ g ^ i % n = x := by
  have hb := h.big
  obtain ⟨i, hi, he⟩ := pigeonN (n - 1) (fun i => g ^ i % n - 1) (fun i hi => by
    have h1 := h.pos hi
    have h2 := Nat.mod_lt (g ^ i) (show 0 < n by omega)
    omega) (fun i j hi hj he => by
    have h1 := h.pos hi
    have h2 := h.pos hj
    rcases Nat.lt_trichotomy i j with h3 | h3 | h3
    · exact absurd (by omega) (h.inj h3 hj)
    · exact h3
    · exact absurd (by omega) (h.inj h3 hi)) (x - 1) (by omega)
  have h1 := h.pos hi
  exact ⟨i, hi, by omega⟩
theorem Gen.prime (h : Gen n g) : Pr n := by
  have hb := h.big
  refine ⟨hb, fun d hd => ?_⟩
  rcases Nat.lt_or_ge d n with h1 | h1
  · left
    have h0 : 0 < d := Nat.pos_of_dvd_of_pos hd (by omega)
    obtain ⟨i, hi, he⟩ := h.all h0 h1
    have h2 : g ^ i * g ^ (n - 1 - i) = g ^ (n - 1) := by rw [← Nat.pow_add]; congr 1; omega
    have h3 := h.one
    rw [← h2, Nat.mul_mod, he] at h3
    have h4 : d ∣ d * (g ^ (n - 1 - i) % n) % n := (Nat.dvd_mod_iff hd).2 (Nat.dvd_mul_right d _)
    rw [h3] at h4
    exact Nat.dvd_one.1 h4
  · right
    exact Nat.le_antisymm (Nat.le_of_dvd (by omega) hd) h1
theorem Gen.fermat (h : Gen n g) {x : Nat} (hx : x % n ≠ 0) : x ^ (n - 1) % n = 1 := by
  have hb := h.big
  obtain ⟨i, _, he⟩ := h.all (x := x % n) (by omega) (Nat.mod_lt _ (by omega))
  rw [Nat.pow_mod, ← he, ← Nat.pow_mod, ← Nat.pow_mul, Nat.mul_comm, Nat.pow_mul]
  exact pow_mod_one hb h.one i
end
/-- The certificate, as a computation. -/
def certB (n g : Nat) (qs : List Nat) : Bool := Nat.ble 2 n && Nat.ble n (2 ^ 255) && (prodL qs == n - 1) && (pm n 255 g (n - 1) == 1) && qs.all (fun q => Nat.blt 1 q && !(pm n 255 g ((n - 1) / q) == 1))
theorem gen_cert {n g : Nat} {qs : List Nat} (hq : ∀ q ∈ qs, Pr q) (h : certB n g qs = true) : Gen n g := by
  simp only [certB, Bool.and_eq_true, beq_iff_eq, Nat.ble_eq] at h
  obtain ⟨⟨⟨⟨h1, h2⟩, h3⟩, h4⟩, h5⟩ := h
  refine gen_of (by omega) hq h3 ?_ fun q hqm => ?_
  · rw [← pm_eq n 255 g (n - 1) (by omega)]; exact h4
  · have h6 := List.all_eq_true.1 h5 q hqm
    simp only [Bool.and_eq_true, Bool.not_eq_true', beq_eq_false_iff_ne, Nat.blt_eq] at h6
    have h7 : (n - 1) / q < 2 ^ 255 := Nat.lt_of_le_of_lt (Nat.div_le_self _ _) (by omega)
    rw [← pm_eq n 255 g _ h7]
    exact h6.2
/-- A small prime, by trial. -/
def trialB (n : Nat) : Nat → Nat → Bool
  | 0, _ => false
  | f + 1, d => if n < d * d then true else if n % d = 0 then false else trialB n f (d + 1)
theorem trial_spec {n : Nat} (hn : 1 < n) : ∀ (f d : Nat), 2 ≤ d → (∀ e, 2 ≤ e → e < d → ¬ e ∣ n) → trialB n f d = true → ∀ e, 2 ≤ e → e * e ≤ n → ¬ e ∣ n
  | 0, _, _, _, h => by cases h
  | f + 1, d, hd, hall, h => by
    unfold trialB at h
    split at h
    · rename_i h1
      intro e he hee
      refine hall e he ?_
      rcases Nat.lt_or_ge e d with h2 | h2
      · exact h2
      · have := Nat.mul_le_mul h2 h2
        omega
    · split at h
      · cases h
      · rename_i h2
        refine trial_spec hn f (d + 1) (by omega) (fun e he hed => ?_) h
        rcases Nat.lt_or_ge e d with h3 | h3
        · exact hall e he h3
        · obtain rfl : e = d := by omega
          exact fun h4 => h2 (Nat.mod_eq_zero_of_dvd h4)
theorem trial_prime {n : Nat} (f : Nat) (hn : Nat.blt 1 n = true) (h : trialB n f 2 = true) : Pr n := by
  have hn' : 1 < n := by simpa [Nat.blt_eq] using hn
  have h1 := trial_spec hn' f 2 (Nat.le_refl _) (fun e he hed => by omega) h
  refine ⟨hn', fun d hd => ?_⟩
  obtain ⟨m, hm⟩ := hd
  have hm0 : 0 < m := by
    rcases Nat.eq_zero_or_pos m with h | h
    · subst h; omega
    · exact h
  have hd0 : 0 < d := by
    rcases Nat.eq_zero_or_pos d with h | h
    · subst h; omega
    · exact h
  rcases Nat.lt_or_ge 1 d with h2 | h2
  · rcases Nat.lt_or_ge 1 m with h3 | h3
    · rcases Nat.le_total d m with h4 | h4
      · exact absurd ⟨m, hm⟩ (h1 d (by omega) (by rw [hm]; exact Nat.mul_le_mul_left d h4))
      · exact absurd ⟨d, by rw [hm, Nat.mul_comm]⟩ (h1 m (by omega) (by rw [hm]; exact Nat.mul_le_mul_right m h4))
    · right; obtain rfl : m = 1 := by omega
      omega
  · left; omega
theorem pr2 : Pr 2 := trial_prime 4 rfl (by kernel_rfl)
theorem pr3 : Pr 3 := trial_prime 4 rfl (by kernel_rfl)
theorem pr65147 : Pr 65147 := trial_prime 258 rfl (by kernel_rfl)
theorem pr353 : Pr 353 := trial_prime 21 rfl (by kernel_rfl)
theorem pr57467 : Pr 57467 := trial_prime 242 rfl (by kernel_rfl)
theorem pr132049 : Pr 132049 := trial_prime 366 rfl (by kernel_rfl)
theorem pr1923133 : Pr 1923133 := trial_prime 1389 rfl (by kernel_rfl)
theorem pr31 : Pr 31 := trial_prime 8 rfl (by kernel_rfl)
theorem pr107 : Pr 107 := trial_prime 13 rfl (by kernel_rfl)
theorem pr223 : Pr 223 := trial_prime 17 rfl (by kernel_rfl)
theorem pr4153 : Pr 4153 := trial_prime 67 rfl (by kernel_rfl)
theorem pr430751 : Pr 430751 := trial_prime 659 rfl (by kernel_rfl)
theorem genpr31757755568855353 : Gen 31757755568855353 10 := gen_cert (qs := [2, 2, 2, 3, 31, 107, 223, 4153, 430751]) (fun q hq => by
  simp only [List.mem_cons, List.not_mem_nil, or_false] at hq
  rcases hq with rfl | rfl | rfl | rfl | rfl | rfl | rfl | rfl | rfl
  · exact pr2
  · exact pr2
  · exact pr2
  · exact pr3
  · exact pr31
  · exact pr107
  · exact pr223
  · exact pr4153
  · exact pr430751) (by kernel_rfl)
theorem pr31757755568855353 : Pr 31757755568855353 := genpr31757755568855353.prime
theorem pr5 : Pr 5 := trial_prime 5 rfl (by kernel_rfl)
theorem pr75707 : Pr 75707 := trial_prime 278 rfl (by kernel_rfl)
theorem pr7 : Pr 7 := trial_prime 5 rfl (by kernel_rfl)
theorem pr19 : Pr 19 := trial_prime 7 rfl (by kernel_rfl)
theorem pr47 : Pr 47 := trial_prime 9 rfl (by kernel_rfl)
theorem pr127 : Pr 127 := trial_prime 14 rfl (by kernel_rfl)
theorem pr103 : Pr 103 := trial_prime 13 rfl (by kernel_rfl)
theorem pr991 : Pr 991 := trial_prime 34 rfl (by kernel_rfl)
theorem genpr8574133 : Gen 8574133 2 := gen_cert (qs := [2, 2, 3, 7, 103, 991]) (fun q hq => by
  simp only [List.mem_cons, List.not_mem_nil, or_false] at hq
  rcases hq with rfl | rfl | rfl | rfl | rfl | rfl
  · exact pr2
  · exact pr2
  · exact pr3
  · exact pr7
  · exact pr103
  · exact pr991) (by kernel_rfl)
theorem pr8574133 : Pr 8574133 := genpr8574133.prime
theorem genpr1919519569386763 : Gen 1919519569386763 2 := gen_cert (qs := [2, 3, 7, 19, 47, 47, 127, 8574133]) (fun q hq => by
  simp only [List.mem_cons, List.not_mem_nil, or_false] at hq
  rcases hq with rfl | rfl | rfl | rfl | rfl | rfl | rfl | rfl
  · exact pr2
  · exact pr3
  · exact pr7
  · exact pr19
  · exact pr47
  · exact pr47
  · exact pr127
  · exact pr8574133) (by kernel_rfl)
theorem pr1919519569386763 : Pr 1919519569386763 := genpr1919519569386763.prime
theorem pr13 : Pr 13 := trial_prime 6 rfl (by kernel_rfl)
theorem pr2437 : Pr 2437 := trial_prime 52 rfl (by kernel_rfl)
theorem pr569003 : Pr 569003 := trial_prime 757 rfl (by kernel_rfl)
theorem genpr2773320623 : Gen 2773320623 5 := gen_cert (qs := [2, 2437, 569003]) (fun q hq => by
  simp only [List.mem_cons, List.not_mem_nil, or_false] at hq
  rcases hq with rfl | rfl | rfl
  · exact pr2
  · exact pr2437
  · exact pr569003) (by kernel_rfl)
theorem pr2773320623 : Pr 2773320623 := genpr2773320623.prime
theorem genpr72106336199 : Gen 72106336199 7 := gen_cert (qs := [2, 13, 2773320623]) (fun q hq => by
  simp only [List.mem_cons, List.not_mem_nil, or_false] at hq
  rcases hq with rfl | rfl | rfl
  · exact pr2
  · exact pr13
  · exact pr2773320623) (by kernel_rfl)
theorem pr72106336199 : Pr 72106336199 := genpr72106336199.prime
theorem genpr75445702479781427272750846543864801 : Gen 75445702479781427272750846543864801 7 := gen_cert (qs := [2, 2, 2, 2, 2, 3, 3, 5, 5, 75707, 72106336199, 1919519569386763]) (fun q hq => by
  simp only [List.mem_cons, List.not_mem_nil, or_false] at hq
  rcases hq with rfl | rfl | rfl | rfl | rfl | rfl | rfl | rfl | rfl | rfl | rfl | rfl
  · exact pr2
  · exact pr2
  · exact pr2
  · exact pr2
  · exact pr2
  · exact pr3
  · exact pr3
  · exact pr5
  · exact pr5
  · exact pr75707
  · exact pr72106336199
  · exact pr1919519569386763) (by kernel_rfl)
theorem pr75445702479781427272750846543864801 : Pr 75445702479781427272750846543864801 := genpr75445702479781427272750846543864801.prime
theorem genpr74058212732561358302231226437062788676166966415465897661863160754340907 : Gen 74058212732561358302231226437062788676166966415465897661863160754340907 2 := gen_cert (qs := [2, 3, 353, 57467, 132049, 1923133, 31757755568855353, 75445702479781427272750846543864801]) (fun q hq => by
  simp only [List.mem_cons, List.not_mem_nil, or_false] at hq
  rcases hq with rfl | rfl | rfl | rfl | rfl | rfl | rfl | rfl
  · exact pr2
  · exact pr3
  · exact pr353
  · exact pr57467
  · exact pr132049
  · exact pr1923133
  · exact pr31757755568855353
  · exact pr75445702479781427272750846543864801) (by kernel_rfl)
theorem pr74058212732561358302231226437062788676166966415465897661863160754340907 : Pr 74058212732561358302231226437062788676166966415465897661863160754340907 := genpr74058212732561358302231226437062788676166966415465897661863160754340907.prime
theorem genprime_p : Gen 57896044618658097711785492504343953926634992332820282019728792003956564819949 2 := gen_cert (qs := [2, 2, 3, 65147, 74058212732561358302231226437062788676166966415465897661863160754340907]) (fun q hq => by
  simp only [List.mem_cons, List.not_mem_nil, or_false] at hq
  rcases hq with rfl | rfl | rfl | rfl | rfl
  · exact pr2
  · exact pr2
  · exact pr3
  · exact pr65147
  · exact pr74058212732561358302231226437062788676166966415465897661863160754340907) (by kernel_rfl)
end Go.Sx

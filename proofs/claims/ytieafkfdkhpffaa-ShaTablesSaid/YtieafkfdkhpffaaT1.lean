/-
  The roots of small numbers by digits of 16 bits, and the first primes: of the reference, as functions of lists. No condition.
-/
import Derived.Test.YtieafkfdkhpffaaSK
set_option linter.unusedVariables false
set_option linter.unusedSimpArgs false
namespace Go.Sx
open Go Go.Proofs

def qs (l : List (BitVec 64)) : List Value := l.map b64
theorem qs_length (l : List (BitVec 64)) : (qs l).length = l.length := by simp [qs]
theorem qs_get {l : List (BitVec 64)} {i : Nat} {x : BitVec 64} (h : l[i]? = some x) : (qs l)[i]? = some (b64 x) := by simp [qs, h]
theorem qs_load {m : List (BitVec 64)} {i : Nat} {x : BitVec 64} (h : m[i]? = some x) : (qs m).toArray[0 + i]? = some (b64 x) := by
  rw [Nat.zero_add, List.getElem?_toArray]; exact qs_get h
theorem qs_set (m : List (BitVec 64)) (i : Nat) (x : BitVec 64) : (qs m).set (0 + i) (b64 x) = qs (m.set i x) := by rw [Nat.zero_add]; simp [qs, List.map_set]
theorem qs_append (l m : List (BitVec 64)) : qs (l ++ m) = qs l ++ qs m := by simp [qs]
theorem oneCell_qs (l : List (BitVec 64)) : ∀ u ∈ qs l, u.oneCell' = true := by
  intro u hu
  obtain ⟨x, _, rfl⟩ := List.mem_map.1 hu
  rfl
def prT : List Nat := [2, 3, 5, 7, 11, 13, 17, 19, 23, 29, 31, 37, 41, 43, 47, 53, 59, 61, 67, 71, 73, 79, 83, 89, 97, 101, 103, 107, 109, 113, 127, 131, 137, 139, 149, 151, 157, 163, 167, 173, 179, 181, 191, 193, 197, 199, 211, 223, 227, 229, 233, 239, 241, 251, 257, 263, 269, 271, 277, 281, 283, 293, 307, 311]

def atW (l : List (BitVec 64)) (i : Nat) : BitVec 64 := l.getD i 0#64
def inM (x : BitVec 64) (b : List (BitVec 64)) (i : Nat) : Nat → Nat → BitVec 64 → List (BitVec 64) → Option (List (BitVec 64))
  | 0, _, _, _ => none
  | f + 1, j, c, out =>
    if j < b.length ∨ 0 < c.toNat then
      (if i + j < out.length then inM x b i f (j + 1) ((c + atW out (i + j) + x * atW b j) / 65536#64) (out.set (i + j) ((c + atW out (i + j) + x * atW b j) % 65536#64)) else none)
    else some out
def outM (b : List (BitVec 64)) : List (BitVec 64) → Nat → List (BitVec 64) → Option (List (BitVec 64))
  | [], _, out => some out
  | x :: r, i, out => match inM x b i 40 0 0#64 out with | some o => outM b r (i + 1) o | none => none
def timesM (a b : List (BitVec 64)) : Option (List (BitVec 64)) := if a.length ≤ 100 ∧ b.length ≤ 100 then outM b a 0 (List.replicate (a.length + b.length + 1) 0#64) else none
def digM : Nat → BitVec 64 → List (BitVec 64) → Option (List (BitVec 64))
  | 0, _, _ => none
  | f + 1, n, l => if 0 < n.toNat then digM f (n / 65536#64) (l ++ [n % 65536#64]) else some l
def powM (d : List (BitVec 64)) : Nat → List (BitVec 64) → Option (List (BitVec 64))
  | 0, v => some v
  | k + 1, v => match timesM v d with | some u => powM d k u | none => none
def cmpM (v u : List (BitVec 64)) : Nat → Bool
  | 0 => false
  | i + 1 => if atW v i ≠ atW u i then decide (((atW u i).toNat : Int) < ((atW v i).toNat : Int)) else cmpM v u i
def cmpT (v u : List (BitVec 64)) : Bool := cmpM v u (max v.length u.length)
def aboveM (y : BitVec 64) (p k : Nat) : Option Bool :=
  match digM 10 y [], digM 10 1#64 [] with
  | some d, some o => match powM d k o with | some v => (if v.length ≤ 200 then some (cmpT v (List.replicate (2 * k) 0#64 ++ [BitVec.ofNat 64 p])) else none) | none => none
  | _, _ => none
def rootG (p k : Nat) : Nat → BitVec 64 → Option (BitVec 64)
  | 0, x => some x
  | j + 1, x => match aboveM (x + 1#64 <<< j) p k with | some true => rootG p k j x | some false => rootG p k j (x + 1#64 <<< j) | none => none
def rootM (p k : Nat) : Option (BitVec 32) := (rootG p k 37 0#64).map fun x => (x % 4294967296#64).setWidth 32

set_option maxRecDepth 100000 in
theorem roots2 : ∀ i, i < 8 → rootM (prT.getD i 0) 2 = some (s0T.getD i 0#32) := by decide +kernel
/-- No number from 2 to below q divides p. -/
def pf (p : Nat) : Nat → Bool
  | 0 => true
  | q + 1 => pf p q && (Nat.blt q 2 || !(Nat.beq (p % q) 0))
def cnt : Nat → Nat
  | 0 => 0
  | p + 1 => cnt p + (if Nat.ble 2 p && pf p p then 1 else 0)
set_option maxRecDepth 100000 in
theorem pf_all0 : ∀ p, p < 313 → ∀ q, q < 19 → (2 ≤ p ∧ 2 ≤ q ∧ (q - 1) * (q - 1) ≤ p ∧ p < q * q) → pf p q = pf p p := by decide +kernel
theorem pf_all {p q : Nat} (h : p < 313) (hp : 2 ≤ p) (hq : 2 ≤ q) (h1 : (q - 1) * (q - 1) ≤ p) (h2 : p < q * q) : pf p q = pf p p := by
  refine pf_all0 p h q ?_ ⟨hp, hq, h1, h2⟩
  rcases Nat.lt_or_ge q 19 with h3 | h3
  · exact h3
  · have : 18 * 18 ≤ (q - 1) * (q - 1) := Nat.mul_le_mul (by omega) (by omega)
    omega
set_option maxRecDepth 100000 in
theorem cnt_pr : ∀ p, p < 313 → (2 ≤ p ∧ pf p p = true ∧ cnt p < 64) → prT.getD (cnt p) 0 = p := by decide +kernel
set_option maxRecDepth 100000 in
theorem cnt_lt : ∀ p, p < 313 → cnt p < 64 → p < 312 := by decide +kernel
end Go.Sx

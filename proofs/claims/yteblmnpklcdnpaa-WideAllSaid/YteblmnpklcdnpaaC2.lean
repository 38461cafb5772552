/-
  Contracts in the words of 'By': copy, equality, padding. Looks of the codec and of its reference.
-/
import Derived.Test.YteblmnpklcdnpaaC1
set_option linter.unusedVariables false
set_option linter.unusedSimpArgs false
namespace Go.Sx
open Go Go.Proofs

theorem Copy_b (w : World) {p : Option Addr} {n : Nat} (c : Nat) {l : List (BitVec 8)} (h : By w p n l) :
    Spec Try.prog 9 #[.slice p n c] w (σ := Ow) (fun _ => True) (fun x => x.sl n) Nob (fun x => [x.ck 5 1 (bs l)]) := Copy_spec w p n c l h.rd h.len h.big
theorem Equal_b (w : World) {p q : Option Addr} {n m : Nat} (c d : Nat) {a b : List (BitVec 8)} (h : By w p n a) (h' : By w q m b) :
    Spec Try.prog 12 #[.slice p n c, .slice q m d] w (σ := Unit) (fun _ => True) (fun _ => .bool (decide (a = b))) Nob (fun _ => []) := Equal_spec w p q n c m d a b h.rd h.len h'.rd h'.len h.big h'.big

def looksN (a b : List (BitVec 8)) : Int := if a.length = b.length then a.length else 0

end Go.Sx

/-
  Contracts in the words of 'By': copy, equality, padding. Looks of the codec and of its reference.
-/
import Derived.Test.YtckfeakolpjleaaC1
set_option linter.unusedVariables false
set_option linter.unusedSimpArgs false
namespace Go.Sx
open Go Go.Proofs

theorem Copy_b (w : World) {p : Option Addr} {n : Nat} (c : Nat) {l : List (BitVec 8)} (h : By w p n l) :
    Spec Try.prog 15 #[.slice p n c] w (σ := Ow) (fun _ => True) (fun x => x.sl n) Nob (fun x => [x.ck 5 1 (bs l)]) := Copy_spec w p n c l h.rd h.len h.big
def looksN (a b : List (BitVec 8)) : Int := if a.length = b.length then a.length else 0

end Go.Sx

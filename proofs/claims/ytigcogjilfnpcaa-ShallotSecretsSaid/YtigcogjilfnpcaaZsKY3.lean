import Derived.Test.YtigcogjilfnpcaaZsKY2
import Derived.Test.YtigcogjilfnpcaaZsXC
import Derived.Test.YtigcogjilfnpcaaZsYA
set_option linter.unusedVariables false
set_option linter.unusedSimpArgs false
/-
  The document's schedule, the payload keys, and a step against a step. The lists fit memory.
-/
namespace Go.Sx
open Go Go.Proofs

def rchR : List (List (BitVec 8)) → List (BitVec 8) → List (List (BitVec 8)) → Int × List HopS
  | [], _, _ => (0, [])
  | pub :: r, al, sc => if (chP pub sc).2 = 0 then comb [(al, (chP pub sc).1)] (rchR r (xmV (kBlind (chP pub sc).1) al) (sc ++ [kBlind (chP pub sc).1])) else ((chP pub sc).2, [])
def rchP (k : List (BitVec 8)) (pubs : List (List (BitVec 8))) : Int × List HopS := if okS k pubs = true then rchR pubs (xmV k nine) [k] else (2, [])
theorem stepsL_get {l : List HopS} (ho : ∀ h ∈ l, h.1.length = 32 ∧ h.2.length = 32) {i : Nat} {h : HopS} (hi : l[i]? = some h) : ((stepsL l).drop (i * 192)).take 192 = stL' h.1 h.2 := by
  have hlt := (List.getElem?_eq_some_iff.1 hi).1
  have hm := ho h (List.mem_of_getElem? hi)
  have e : l = l.take i ++ h :: l.drop (i + 1) := by
    rw [← (List.getElem?_eq_some_iff.1 hi).2, ← List.drop_eq_getElem_cons hlt, List.take_append_drop]
  have hl : (stepsL (l.take i)).length = i * 192 := by
    rw [stepsL_length (fun x hx => ho x (List.mem_of_mem_take hx)), List.length_take, Nat.min_eq_left (by omega)]
  have e2 : stepsL l = stepsL (l.take i) ++ (stL' h.1 h.2 ++ stepsL (l.drop (i + 1))) := by
    conv => lhs; rw [e]
    simp [stepsL]
  rw [e2]
  exact drop_mid hl (stL'_length hm.1 hm.2)
end Go.Sx

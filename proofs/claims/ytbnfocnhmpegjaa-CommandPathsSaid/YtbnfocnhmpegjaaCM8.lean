/-
  The commands of a route: what both ways come to. No condition.
-/
import Derived.Test.YtbnfocnhmpegjaaCM5
import Derived.Test.YtbnfocnhmpegjaaCM7
set_option linter.unusedVariables false
set_option linter.unusedSimpArgs false
namespace Go.Sx
open Go Go.Proofs

def badHop (h : Hop) : Bool := decide (h.dl < 0 ∨ h.dl > 1000000 ∨ h.fl < 0 ∨ h.fl > 255)
/-- What is asked of the last command. -/
def lastBad (x : Cmd) : Prop := x.n.toNat ≠ 0 ∨ (x.k.toNat ≠ 4 ∧ x.m ≠ zero16)
def pcmd (x : Cmd) (h : Hop) : Option Hop → Cmd
  | some g => ⟨1#8, BitVec.ofInt 8 h.fl, BitVec.ofInt 32 h.dl, g.id, zero16⟩
  | none => ⟨x.k, BitVec.ofInt 8 h.fl, BitVec.ofInt 32 h.dl, x.n, x.m⟩
def pcmds (x : Cmd) : List Hop → List Cmd
  | [] => []
  | h :: r => pcmd x h r.head? :: pcmds x r
theorem pcmds_length (x : Cmd) : ∀ hs, (pcmds x hs).length = hs.length
  | [] => rfl
  | h :: r => by rw [pcmds, List.length_cons, pcmds_length x r, List.length_cons]
theorem pcmds_get (x : Cmd) : ∀ {hs : List Hop} {i : Nat} {h : Hop}, hs[i]? = some h → (pcmds x hs)[i]? = some (pcmd x h hs[i + 1]?)
  | [], i, h, e => by simp at e
  | g :: r, 0, h, e => by
    simp only [List.getElem?_cons_zero, Option.some.injEq] at e
    subst e
    rw [pcmds, List.getElem?_cons_zero, List.getElem?_cons_succ, List.head?_eq_getElem?]
  | g :: r, i + 1, h, e => by
    rw [List.getElem?_cons_succ] at e
    rw [pcmds, List.getElem?_cons_succ, List.getElem?_cons_succ]
    exact pcmds_get x e
theorem pcmds_16 {x : Cmd} (hx : x.m.length = 16) : ∀ {hs : List Hop}, ∀ y ∈ pcmds x hs, y.m.length = 16
  | [], y, h => by simp [pcmds] at h
  | g :: r, y, h => by
    rw [pcmds] at h
    rcases List.mem_cons.1 h with rfl | h
    · cases r.head? with
      | none => exact hx
      | some g' => rfl
    · exact pcmds_16 hx y h
/-- A command of a hop in form has no other error than that of its form. -/
theorem chk_next {x : Cmd} {h g : Hop} (hb : badHop h = false) : chkE (pcmd x h (some g)) = if g.id.toNat = 0 then 3 else 0 := by
  have hb := of_decide_eq_false hb
  have hd : (BitVec.ofInt 32 h.dl).toNat ≤ 1000000 := by rw [BitVec.toNat_ofInt]; omega
  unfold chkE pcmd
  dsimp only
  rw [if_neg (by decide)]
  by_cases h0 : g.id.toNat = 0
  · rw [if_pos (.inl ⟨rfl, h0⟩), if_pos h0]
  · rw [if_neg (by rintro (⟨_, a⟩ | ⟨a, _⟩ | ⟨_, a⟩); exact h0 a; exact a rfl; exact a rfl), if_neg (by omega), if_neg h0]
theorem chk_last {x : Cmd} {h : Hop} (hb : badHop h = false) (hk : ¬ (x.k.toNat < 2 ∨ x.k.toNat > 4)) [Decidable (lastBad x)] : chkE (pcmd x h none) = if lastBad x then 3 else 0 := by
  have hb := of_decide_eq_false hb
  have hd : (BitVec.ofInt 32 h.dl).toNat ≤ 1000000 := by rw [BitVec.toNat_ofInt]; omega
  unfold chkE pcmd
  dsimp only
  rw [if_neg (by omega)]
  by_cases h0 : lastBad x
  · rw [if_pos h0, if_pos]
    rcases h0 with h0 | h0
    · exact .inr (.inl ⟨by omega, h0⟩)
    · exact .inr (.inr h0)
  · rw [if_neg h0, if_neg, if_neg (by omega)]
    rintro (⟨a, _⟩ | ⟨_, a⟩ | a)
    · omega
    · exact h0 (.inl a)
    · exact h0 (.inr a)
def pathBad (x : Cmd) (hs : List Hop) : Bool := (pcmds x hs).any fun y => decide (chkE y ≠ 0)
def pathE (x : Cmd) (hs : List Hop) : Int := if x.k.toNat < 2 ∨ x.k.toNat > 4 then 1 else if hs.any badHop = true then 1 else if hs.length < 1 ∨ hs.length > 5 then 2 else if pathBad x hs = true then 3 else 0
end Go.Sx

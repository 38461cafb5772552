import Derived.Test.YtigcogjilfnpcaaZsYA
import Derived.Test.YtigcogjilfnpcaaZsXE
import Derived.Test.YtigcogjilfnpcaaZsYB
set_option linter.unusedVariables false
set_option linter.unusedSimpArgs false
/-
  Turning every byte of a list: of the reference. No condition.
-/
namespace Go.Sx
open Go Go.Proofs

end Go.Sx

/-
  The reference's spare room, its looking after it, and its looking whether lists share memory. Conditions: the lists are writable, in blocks of their own.
-/
namespace Go.Sx
open Go Go.Proofs

end Go.Sx

/-
  The reference's looking whether lists share memory: of lists that are writable, each in a block of its own, it says no. Conditions: at most 1000000 lists of at most 2^46 bytes.
-/
namespace Go.Sx
open Go Go.Proofs

end Go.Sx

/-
  Handing known parts of memory to the look whether lists share memory. No condition.
-/
namespace Go.Sx
open Go Go.Proofs

end Go.Sx

/-
  Lists of slices of the run's own, each in a block of its own, with their contents; handing them to the look whether lists share memory. No condition.
-/
namespace Go.Sx
open Go Go.Proofs

abbrev Otm := Ow × List (BitVec 8)
def BSC (xs : List Otm) : Blocks := fun j => ∃ x ∈ xs, At x.1.p j
def BagC (_ : TypeId) (xs : List Otm) (w : World) : Prop := (∀ x ∈ xs, ∃ F, OwnO F x.1.p x.1.c (bs x.2) w) ∧ xs.Pairwise (fun a b => ∀ j, At a.1.p j → ¬ At b.1.p j)
def vals (xs : List Otm) : List Value := xs.map fun x => x.1.sl x.2.length
def conts (xs : List Otm) : List (List (BitVec 8)) := xs.map (·.2)
theorem vals_length (xs : List Otm) : (vals xs).length = xs.length := by simp [vals]
theorem conts_length (xs : List Otm) : (conts xs).length = xs.length := by simp [conts]
theorem BagC.loc {E : TypeId} {xs : List Otm} : Local (BSC xs) (BagC E xs) := fun w w' hk h => ⟨fun x hx => by obtain ⟨F, hF⟩ := h.1 x hx; exact ⟨F, OwnO.loc w w' (fun j hj => hk j ⟨x, hx, hj⟩) hF⟩, h.2⟩
theorem BagC.els {E : TypeId} {xs : List Otm} {w : World} (h : BagC E xs w) (hb : ∀ x ∈ xs, x.2.length ≤ 140737488355328) : All2 (IsB (BSC xs) w) (vals xs) (conts xs) := by
  refine ⟨by simp [vals, conts], fun i v l hv hl => ?_⟩
  simp only [vals, conts, List.getElem?_map, Option.map_eq_some_iff] at hv hl
  obtain ⟨x, hx, rfl⟩ := hv
  obtain ⟨y, hy, rfl⟩ := hl
  rw [hx] at hy; cases hy
  have hm := List.mem_of_getElem? hx
  obtain ⟨F, hF⟩ := h.1 x hm
  exact ⟨x.1.p, x.2.length, x.1.c, rfl, ⟨hF.rd, rfl, hb x hm⟩, fun j hj => ⟨x, hm, hj⟩⟩
/-- The outer row and the contents, as slices of slices. -/
theorem BagC.byl (t t' : Nat) {w0 w : World} {D : Blocks} {M : List (Nat × Ck)} {F E : TypeId} {x : Ow} {xs : List Otm} {n : Nat} (h : mget M t = some (x.ck F 1 (vals xs))) (h' : mget M t' = some (.fact (BSC xs) (BagC E xs))) (hm : Mem w0 D M w) (hn : xs.length = n) (hb : ∀ x ∈ xs, x.2.length ≤ 140737488355328) (hnb : n * 24 ≤ 140737488355328) : ByL w x.p n (vals xs) (conts xs) :=
  ⟨Own.rd (hm.holds t _ h), by rw [vals_length, hn], (BagC.els (E := E) (hm.holds t' _ h') hb).imp (fun _ _ h => h.imp (fun _ _ => trivial)), hnb⟩

section
variable {P : Program} {fn : Func} {R : Ending → World → Prop} {N : Nat} {w0 : World} {D : Blocks} {e : List (Nat × Value)} {M : List (Nat × Ck)} {k : List It}
end
end Go.Sx

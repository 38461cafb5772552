import Derived.Test.YtigcogjilfnpcaaZsYB
import Derived.Test.YtigcogjilfnpcaaZsYC
set_option linter.unusedVariables false
set_option linter.unusedSimpArgs false
/-
  Cutting bytes, the pieces as slices of the run's own. The empty list of codec.
-/
namespace Go.Sx
open Go Go.Proofs

theorem vals_append (xs ys : List Otm) : vals (xs ++ ys) = vals xs ++ vals ys := by simp [vals]
theorem conts_append (xs ys : List Otm) : conts (xs ++ ys) = conts xs ++ conts ys := by simp [conts]
theorem BSC_append {xs ys : List Otm} {j : Nat} : BSC (xs ++ ys) j ↔ BSC xs j ∨ BSC ys j := by
  constructor
  · rintro ⟨x, hx, hj⟩
    exact (List.mem_append.1 hx).imp (fun h => ⟨x, h, hj⟩) (fun h => ⟨x, h, hj⟩)
  · rintro (⟨x, hx, hj⟩ | ⟨x, hx, hj⟩)
    · exact ⟨x, List.mem_append_left _ hx, hj⟩
    · exact ⟨x, List.mem_append_right _ hx, hj⟩
theorem BagC.two {E : TypeId} {xs ys : List Otm} {w : World} (h : BagC E xs w) (h' : BagC E ys w) (hd : ∀ j, BSC xs j → ¬ BSC ys j) : BagC E (xs ++ ys) w :=
  ⟨fun x hx => (List.mem_append.1 hx).elim (h.1 x) (h'.1 x), List.pairwise_append.2 ⟨h.2, h'.2, fun a ha b hb j hj hj2 => hd j ⟨a, ha, hj⟩ ⟨b, hb, hj2⟩⟩⟩
theorem BagC.nil (E : TypeId) (w : World) : BagC E [] w := ⟨fun _ h => by simp at h, List.Pairwise.nil⟩
theorem BSC_one {x : Otm} {j : Nat} : BSC [x] j ↔ At x.1.p j := by
  constructor
  · rintro ⟨y, hy, hj⟩
    obtain rfl := List.mem_singleton.1 hy
    exact hj
  · exact fun h => ⟨x, by simp, h⟩
section
variable {P : Program} {fn : Func} {R : Ending → World → Prop} {N : Nat} {w0 : World} {D : Blocks} {e : List (Nat × Value)} {M : List (Nat × Ck)} {k : List It}
theorem g_noBag (t : Nat) (E : TypeId) (hf : fresh M [t] = true) (h : G P fn R N w0 D e ((t, .fact (BSC []) (BagC E [])) :: M) k) : G P fn R N w0 D e M k :=
  fun a w hs hm => h a w hs (hm.free t _ hf (BagC.nil E w) BagC.loc (fun j hj => by obtain ⟨x, hx, _⟩ := hj; simp at hx))
/-- One more slice of one's own in the bag. -/
theorem g_bagSnoc (tE tx : Nat) {E F : TypeId} {xs : List Otm} {x : Ow} {l : List (BitVec 8)} (hME : mget M tE = some (.fact (BSC xs) (BagC E xs))) (hMx : mget M tx = some (x.ck F 1 (bs l))) (hne : tE ≠ tx)
    (hf : fresh (gone [tE, tx] M) [tE] = true)
    (h : G P fn R N w0 D e ((tE, .fact (BSC (xs ++ [(x, l)])) (BagC E (xs ++ [(x, l)]))) :: gone [tE, tx] M) k) : G P fn R N w0 D e M k := by
  refine g_merge [tE, tx] tE (.fact (BSC (xs ++ [(x, l)])) (BagC E (xs ++ [(x, l)]))) hf (fun w hm => ?_) BagC.loc (fun j hj => ?_) h
  · refine BagC.two (E := E) (hm.holds _ _ hME) ⟨fun z hz => ?_, by simp⟩ (fun j hj hj2 => hm.apart tE _ tx _ hME hMx hne j hj (BSC_one.1 hj2))
    obtain rfl := List.mem_singleton.1 hz
    exact ⟨F, OwnO.of (hm.holds _ _ hMx)⟩
  · rcases BSC_append.1 hj with hj | hj
    · exact ⟨tE, by simp, _, hME, hj⟩
    · exact ⟨tx, by simp, _, hMx, BSC_one.1 hj⟩
end

end Go.Sx

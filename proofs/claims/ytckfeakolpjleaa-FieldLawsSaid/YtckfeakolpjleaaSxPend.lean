/-
  In a region of any order: a row of constants that is yet to be built. No condition.
-/
import Derived.Test.YtckfeakolpjleaaSxArr
set_option linter.unusedVariables false
set_option linter.unusedSimpArgs false
namespace Go.Sx
open Go Go.Proofs
section
variable {P : Program} {fn : Func} {R : Ending → World → Prop} {N : Nat} {w0 : World} {D : Blocks} {e : List (Nat × Value)} {M : List (Nat × Ck)} {k : List It} {o : Oper}
def PB (i d tag n : Nat) (E : TypeId) (cs0 : List Value) (w0 : World) : PU := ⟨i, d, [tag], fun v cs => ∃ b : Nat, w0.heap.size ≤ b ∧ v = .slice (some ⟨b, 0, none⟩) n n ∧ cs = [.pt b (.cells cs0.toArray E (0, 0))]⟩
theorem does_PB {ops : Array Oper} {Q : Exit → Act → World → Prop} {i d tag n s : Nat} {t E : TypeId} {z : Value} {ps : List (Nat × Operand)} {vs : List (Nat × Value)} {cs0 : List Value} (hi : ops[i]? = some o) (hd : o.dst = some d) (hw : wantE ops e o = some true) [hu : Und P t (.slice E)] [hz : Siz P E s] [hzz : Zer P E z]
    (ho : o.op = .buildSlice t n ps.toArray) (hp : evp e ps = some vs) (hsm : n * s ≤ 16777216) (h0 : n * s ≠ 0) (hv : vs.length = n) (hq : seqCells s 0 vs = some cs0) : Does P ops Q N w0 D e M i d (PB i d tag n E cs0 w0).out :=
  does_lo hi hd hw (lo_buildSlice ho hp hsm h0 hv hq)
theorem a_pendB {ops : Array Oper} {m : Nat × List Nat} {ps : List PU} {f : Nat} {L : Array Bool} (i d tag n : Nat) (E : TypeId) (cs0 : List Value) (h : GP P fn R N w0 D e M k ops m (PB i d tag n E cs0 w0 :: ps) f L) : GP P fn R N w0 D e M k ops m ps f L := a_pend _ h
end
end Go.Sx

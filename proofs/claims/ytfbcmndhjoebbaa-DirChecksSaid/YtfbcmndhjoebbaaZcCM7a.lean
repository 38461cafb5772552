import Derived.Test.YtfbcmndhjoebbaaZcXC
import Derived.Test.YtfbcmndhjoebbaaZcXE
set_option linter.unusedVariables false
set_option linter.unusedSimpArgs false
/-
  Hops and nodes in rows. No condition.
-/
namespace Go.Sx
open Go Go.Proofs

structure Hop where
  name : ByteArray
  id : BitVec 64
  pv : List (BitVec 8)
  pb : List (BitVec 8)
  dl : Int
  fl : Int
def Hop.ok (h : Hop) : Prop := h.pv.length = 32 ∧ h.pb.length = 32
def nodeC (h : Hop) : List Value := [.string h.name, b64 h.id] ++ (bs h.pv ++ bs h.pb)
def hopC (h : Hop) : List Value := nodeC h ++ [.int .i64 h.dl, .int .i64 h.fl]
theorem nodeC_length {h : Hop} (ho : h.ok) : (nodeC h).length = 66 := by simp [nodeC, bs_length, ho.1, ho.2]
theorem oneCell_hop (h : Hop) : ∀ u ∈ hopC h, u.oneCell' = true := fun u hu => by
  unfold hopC nodeC at hu
  simp only [List.mem_append, List.mem_cons, List.not_mem_nil, or_false] at hu
  rcases hu with ((rfl | rfl) | hu | hu) | rfl | rfl
  · rfl
  · rfl
  · exact oneCell_bs _ u hu
  · exact oneCell_bs _ u hu
  · rfl
  · rfl
end Go.Sx

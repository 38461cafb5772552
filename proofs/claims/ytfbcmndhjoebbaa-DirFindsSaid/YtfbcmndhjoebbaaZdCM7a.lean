import Derived.Test.YtfbcmndhjoebbaaZdXC
import Derived.Test.YtfbcmndhjoebbaaZdXE
set_option linter.unusedVariables false
set_option linter.unusedSimpArgs false
/-
  Hops and nodes in rows. No condition.
-/
namespace Go.Sx
open Go Go.Proofs

structure Hop where
  name : ByteArray
  id : BitVec 64
  pv : List (BitVec 8)
  pb : List (BitVec 8)
  dl : Int
  fl : Int
def Hop.ok (h : Hop) : Prop := h.pv.length = 32 ∧ h.pb.length = 32
def nodeC (h : Hop) : List Value := [.string h.name, b64 h.id] ++ (bs h.pv ++ bs h.pb)
def hopC (h : Hop) : List Value := nodeC h ++ [.int .i64 h.dl, .int .i64 h.fl]
theorem nodeC_length {h : Hop} (ho : h.ok) : (nodeC h).length = 66 := by simp [nodeC, bs_length, ho.1, ho.2]
theorem fill_node {h : Hop} (ho : h.ok) (A : Array Value) (hA : A.size = 66) : Instr.fill (fun i => [(0, 66)][i]?) A [(0, .agg (nodeC h).toArray)] = some (nodeC h).toArray := by
  rw [fill_one (C := nodeC h) (off := 0) (s := 66) rfl (nodeC_length ho) (by omega), List.take_zero, List.nil_append, List.drop_of_length_le (by rw [Array.length_toList]; omega), List.append_nil]
theorem oneCell_hop (h : Hop) : ∀ u ∈ hopC h, u.oneCell' = true := fun u hu => by
  unfold hopC nodeC at hu
  simp only [List.mem_append, List.mem_cons, List.not_mem_nil, or_false] at hu
  rcases hu with ((rfl | rfl) | hu | hu) | rfl | rfl
  · rfl
  · rfl
  · exact oneCell_bs _ u hu
  · exact oneCell_bs _ u hu
  · rfl
  · rfl
end Go.Sx

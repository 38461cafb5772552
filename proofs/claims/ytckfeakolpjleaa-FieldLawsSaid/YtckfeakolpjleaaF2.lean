/-
  Lists of 64 bit words, elements as numbers, sums with carry as words, and the library's product of two words. No condition but a carry of at most 1.
-/
import Derived.Test.YtckfeakolpjleaaF1
import Derived.Test.YtckfeakolpjleaaC2
import Derived.Lib.Mul64
set_option linter.unusedVariables false
set_option linter.unusedSimpArgs false
namespace Go.Sx
open Go Go.Proofs

def qs (l : List (BitVec 64)) : List Value := l.map b64
theorem qs_length (l : List (BitVec 64)) : (qs l).length = l.length := by simp [qs]
theorem qs_get {l : List (BitVec 64)} {i : Nat} {x : BitVec 64} (h : l[i]? = some x) : (qs l)[i]? = some (b64 x) := by simp [qs, h]
theorem qs_load {m : List (BitVec 64)} {i : Nat} {x : BitVec 64} (h : m[i]? = some x) : (qs m).toArray[0 + i]? = some (b64 x) := by
  rw [Nat.zero_add, List.getElem?_toArray]; exact qs_get h
theorem qs_set (m : List (BitVec 64)) (i : Nat) (x : BitVec 64) : (qs m).set (0 + i) (b64 x) = qs (m.set i x) := by rw [Nat.zero_add]; simp [qs, List.map_set]
theorem qs_append (l m : List (BitVec 64)) : qs (l ++ m) = qs l ++ qs m := by simp [qs]
theorem oneCell_qs (l : List (BitVec 64)) : ∀ u ∈ qs l, u.oneCell' = true := by
  intro u hu
  obtain ⟨x, _, rfl⟩ := List.mem_map.1 hu
  rfl
theorem all_qs (l : List (BitVec 64)) : (qs l).all (kindIs .u64) = true := by
  rw [List.all_eq_true]
  intro u hu
  obtain ⟨x, _, rfl⟩ := List.mem_map.1 hu
  rfl
theorem qs_inj {l m : List (BitVec 64)} (h : qs l = qs m) : l = m := by
  unfold qs at h
  induction l generalizing m with
  | nil => cases m with
    | nil => rfl
    | cons y m => simp at h
  | cons x l ih => cases m with
    | nil => simp at h
    | cons y m =>
      simp only [List.map_cons, List.cons.injEq] at h
      rw [b64_inj h.1, ih h.2]

/-- The element with this number below 2^256. -/
def el (n : Nat) : List Value := qs (limbs 4 n)
theorem el_length (n : Nat) : (el n).length = 4 := by rw [el, qs_length, limbs_length]
theorem el_of {l : List (BitVec 64)} (h : l.length = 4) : qs l = el (numL l) := by rw [el, ← h, limbs_numL]
theorem numL4_lt {l : List (BitVec 64)} (h : l.length = 4) : numL l < 115792089237316195423570985008687907853269984665640564039457584007913129639936 := by
  have := numL_lt l
  rw [h] at this
  exact this
theorem el_numL {n : Nat} (h : n < 115792089237316195423570985008687907853269984665640564039457584007913129639936) : numL (limbs 4 n) = n := numL_limbs 4 n h
theorem el_inj {n m : Nat} (hn : n < 115792089237316195423570985008687907853269984665640564039457584007913129639936) (hm : m < 115792089237316195423570985008687907853269984665640564039457584007913129639936) (h : el n = el m) : n = m := by
  rw [← el_numL hn, ← el_numL hm, qs_inj h]
theorem oneCell_el (n : Nat) : ∀ u ∈ el n, u.oneCell' = true := oneCell_qs _
theorem all_el (n : Nat) : (el n).all (kindIs .u64) = true := all_qs _
theorem el4 (n : Nat) : ∃ a b c d : BitVec 64, limbs 4 n = [a, b, c, d] := ⟨_, _, _, _, rfl⟩

/-! ## Sums and differences with carry -/
def adS (x y c : BitVec 64) : BitVec 64 := BitVec.ofNat 64 (x.toNat + y.toNat + c.toNat)
def adC (x y c : BitVec 64) : BitVec 64 := BitVec.ofNat 64 ((x.toNat + y.toNat + c.toNat) / 18446744073709551616)
def sbS (x y c : BitVec 64) : BitVec 64 := BitVec.ofNat 64 (x.toNat + 18446744073709551616 - y.toNat - c.toNat)
def sbC (x y c : BitVec 64) : BitVec 64 := if x.toNat < y.toNat + c.toNat then 1#64 else 0#64
theorem ad_eq (x y c : BitVec 64) (h : c.toNat ≤ 1) : (adS x y c).toNat + 18446744073709551616 * (adC x y c).toNat = x.toNat + y.toNat + c.toNat ∧ (adC x y c).toNat ≤ 1 := by
  have hx := x.isLt
  have hy := y.isLt
  unfold adS adC
  rw [BitVec.toNat_ofNat, BitVec.toNat_ofNat]
  omega
theorem sb_eq (x y c : BitVec 64) (h : c.toNat ≤ 1) : (sbS x y c).toNat + y.toNat + c.toNat = x.toNat + 18446744073709551616 * (sbC x y c).toNat ∧ (sbC x y c).toNat ≤ 1 := by
  have hx := x.isLt
  have hy := y.isLt
  unfold sbS sbC
  rw [BitVec.toNat_ofNat]
  split
  · rw [show (1#64).toNat = 1 from rfl]; omega
  · rw [show (0#64).toNat = 0 from rfl]; omega

section
variable {P : Program} {fn : Func} {R : Ending → World → Prop} {N : Nat} {w0 : World} {D : Blocks} {e : List (Nat × Value)} {M : List (Nat × Ck)} {k : List It} {o : Oper}
theorem pu_ad {f : FuncId} {x y z : Operand} {a b c : BitVec 64} {tys : Array TypeId} [hc : Ext P f add64Entry] (ho : o.op = .call ⟨.value (.func f), #[x, y, z], tys⟩) (hx : ev e x = some (b64 a)) (hy : ev e y = some (b64 b)) (hz : ev e z = some (b64 c)) (h1 : c.toNat ≤ 1) :
    Pu P N w0 D e M o (.tuple #[b64 (adS a b c), b64 (adC a b c)]) := by
  have h := pu_add64c (P := P) (N := N) (w0 := w0) (D := D) (M := M) ho hx hy hz h1
  have ha := a.isLt
  have hb := b.isLt
  unfold b64 adS adC
  rw [BitVec.toNat_ofNat, BitVec.toNat_ofNat, Nat.mod_eq_of_lt (a := (a.toNat + b.toNat + c.toNat) / 18446744073709551616) (by omega)]
  exact h
theorem pu_sb {f : FuncId} {x y z : Operand} {a b c : BitVec 64} {tys : Array TypeId} [hc : Ext P f sub64Entry] (ho : o.op = .call ⟨.value (.func f), #[x, y, z], tys⟩) (hx : ev e x = some (b64 a)) (hy : ev e y = some (b64 b)) (hz : ev e z = some (b64 c)) (h1 : c.toNat ≤ 1) :
    Pu P N w0 D e M o (.tuple #[b64 (sbS a b c), b64 (sbC a b c)]) := by
  have h := pu_sub64c (P := P) (N := N) (w0 := w0) (D := D) (M := M) ho hx hy hz h1
  have e1 : (sbC a b c).toNat = if a.toNat < b.toNat + c.toNat then 1 else 0 := by unfold sbC; split <;> rfl
  unfold b64
  rw [e1]
  unfold sbS
  rw [BitVec.toNat_ofNat]
  exact h
end

/-! ## The product of two words -/
def mulHi (x y : BitVec 64) : BitVec 64 := BitVec.ofNat 64 (x.toNat * y.toNat / 18446744073709551616)
theorem mul_lt (x y : BitVec 64) : x.toNat * y.toNat ≤ 340282366920938463426481119284349108225 := Nat.mul_le_mul (show x.toNat ≤ 18446744073709551615 by omega) (show y.toNat ≤ 18446744073709551615 by omega)
theorem mul_eq (x y : BitVec 64) : (mulHi x y).toNat * 18446744073709551616 + (x * y).toNat = x.toNat * y.toNat := by
  have h := mul_lt x y
  unfold mulHi
  rw [BitVec.toNat_ofNat, BitVec.toNat_mul]
  generalize x.toNat * y.toNat = t at *
  omega
theorem and32 (a : BitVec 64) : (a &&& 4294967295#64).toNat = a.toNat % 4294967296 := by
  rw [BitVec.toNat_and, show (4294967295#64).toNat = 2 ^ 32 - 1 from rfl, Nat.and_two_pow_sub_one_eq_mod]
theorem shr32' (a : BitVec 64) : (a >>> 32).toNat = a.toNat / 4294967296 := by
  rw [BitVec.toNat_ushiftRight, Nat.shiftRight_eq_div_pow]
theorem mulHi_eq (x y : BitVec 64) : (x >>> 32) * (y >>> 32) + (((x >>> 32) * (y &&& 4294967295#64) + ((x &&& 4294967295#64) * (y &&& 4294967295#64)) >>> 32) >>> 32) +
    (((((x >>> 32) * (y &&& 4294967295#64) + ((x &&& 4294967295#64) * (y &&& 4294967295#64)) >>> 32) &&& 4294967295#64) + (x &&& 4294967295#64) * (y >>> 32)) >>> 32) = mulHi x y := by
  obtain ⟨h1, h2, h3, h4⟩ := Go.Lib.mul64_hi x.toNat y.toNat x.isLt y.isLt
  have hlt := mul_lt x y
  apply BitVec.eq_of_toNat_eq
  have w0 : ((x &&& 4294967295#64) * (y &&& 4294967295#64)).toNat = x.toNat % 4294967296 * (y.toNat % 4294967296) := by
    rw [BitVec.toNat_mul, and32, and32]; exact Nat.mod_eq_of_lt h1
  have t : ((x >>> 32) * (y &&& 4294967295#64) + ((x &&& 4294967295#64) * (y &&& 4294967295#64)) >>> 32).toNat = x.toNat / 4294967296 * (y.toNat % 4294967296) + x.toNat % 4294967296 * (y.toNat % 4294967296) / 4294967296 := by
    have hm : ((x >>> 32) * (y &&& 4294967295#64)).toNat = x.toNat / 4294967296 * (y.toNat % 4294967296) := by
      rw [BitVec.toNat_mul, shr32', and32]; exact Nat.mod_eq_of_lt (Nat.lt_of_le_of_lt (Nat.le_add_right _ _) h2)
    rw [BitVec.toNat_add, hm, shr32', w0]; exact Nat.mod_eq_of_lt h2
  generalize (x >>> 32) * (y &&& 4294967295#64) + ((x &&& 4294967295#64) * (y &&& 4294967295#64)) >>> 32 = T at *
  have w1 : ((T &&& 4294967295#64) + (x &&& 4294967295#64) * (y >>> 32)).toNat = T.toNat % 4294967296 + x.toNat % 4294967296 * (y.toNat / 4294967296) := by
    have hm : ((x &&& 4294967295#64) * (y >>> 32)).toNat = x.toNat % 4294967296 * (y.toNat / 4294967296) := by
      rw [BitVec.toNat_mul, and32, shr32']; exact Nat.mod_eq_of_lt (Nat.lt_of_le_of_lt (Nat.le_add_left _ _) h3)
    rw [BitVec.toNat_add, hm, and32, t]; exact Nat.mod_eq_of_lt h3
  have hm : ((x >>> 32) * (y >>> 32)).toNat = x.toNat / 4294967296 * (y.toNat / 4294967296) := by
    rw [BitVec.toNat_mul, shr32', shr32']
    refine Nat.mod_eq_of_lt ?_
    have := x.isLt
    have := y.isLt
    exact Nat.lt_of_le_of_lt (Nat.mul_le_mul (show x.toNat / 4294967296 ≤ 4294967295 by omega) (show y.toNat / 4294967296 ≤ 4294967295 by omega)) (by decide)
  unfold mulHi
  rw [BitVec.toNat_add, BitVec.toNat_add, hm, shr32', shr32', w1, t, BitVec.toNat_ofNat, ← h4]
  simp only [Nat.mod_add_mod]

theorem Mul64_b (w : World) (x y : BitVec 64) : Spec Try.prog 49 #[b64 x, b64 y] w (σ := Unit) (fun _ => True) (fun _ => .tuple #[b64 (mulHi x y), b64 (x * y)]) Nob (fun _ => []) := by
  refine enter Try.func49 rfl rfl (Mem.start w) ?_
  (repeat refine g_seq ?_)
  refine g_region ?_
  refine g_pu rfl rfl rfl (pu_assign (v := b64 0#64) rfl rfl) ?_
  refine g_pu rfl rfl rfl (pu_assign (v := b64 0#64) rfl rfl) ?_
  refine g_nil ?_
  (repeat refine g_seq ?_)
  refine g_region ?_
  refine g_pu rfl rfl rfl (pu_move rfl rfl) ?_
  refine g_pu rfl rfl rfl (pu_and64 (b := 4294967295#64) rfl rfl rfl) ?_
  refine g_pu rfl rfl rfl (pu_assign rfl rfl) ?_
  refine g_nil ?_
  (repeat refine g_seq ?_)
  refine g_region ?_
  refine g_pu rfl rfl rfl (pu_move rfl rfl) ?_
  refine g_pu rfl rfl rfl (pu_shr64 rfl rfl rfl (by omega)) ?_
  refine g_pu rfl rfl rfl (pu_assign rfl rfl) ?_
  refine g_nil ?_
  (repeat refine g_seq ?_)
  refine g_region ?_
  refine g_pu rfl rfl rfl (pu_move rfl rfl) ?_
  refine g_pu rfl rfl rfl (pu_and64 (b := 4294967295#64) rfl rfl rfl) ?_
  refine g_pu rfl rfl rfl (pu_assign rfl rfl) ?_
  refine g_nil ?_
  (repeat refine g_seq ?_)
  refine g_region ?_
  refine g_pu rfl rfl rfl (pu_move rfl rfl) ?_
  refine g_pu rfl rfl rfl (pu_shr64 rfl rfl rfl (by omega)) ?_
  refine g_pu rfl rfl rfl (pu_assign rfl rfl) ?_
  refine g_nil ?_
  (repeat refine g_seq ?_)
  refine g_region ?_
  refine g_pu rfl rfl rfl (pu_move rfl rfl) ?_
  refine g_pu rfl rfl rfl (pu_move rfl rfl) ?_
  refine g_pu rfl rfl rfl (pu_mul64 rfl rfl rfl) ?_
  refine g_pu rfl rfl rfl (pu_assign rfl rfl) ?_
  refine g_nil ?_
  (repeat refine g_seq ?_)
  refine g_region ?_
  refine g_pu rfl rfl rfl (pu_move rfl rfl) ?_
  refine g_pu rfl rfl rfl (pu_move rfl rfl) ?_
  refine g_pu rfl rfl rfl (pu_mul64 rfl rfl rfl) ?_
  refine g_pu rfl rfl rfl (pu_move rfl rfl) ?_
  refine g_pu rfl rfl rfl (pu_shr64 rfl rfl rfl (by omega)) ?_
  refine g_pu rfl rfl rfl (pu_add64 rfl rfl rfl) ?_
  refine g_pu rfl rfl rfl (pu_assign rfl rfl) ?_
  refine g_nil ?_
  (repeat refine g_seq ?_)
  refine g_region ?_
  refine g_pu rfl rfl rfl (pu_move rfl rfl) ?_
  refine g_pu rfl rfl rfl (pu_and64 (b := 4294967295#64) rfl rfl rfl) ?_
  refine g_pu rfl rfl rfl (pu_assign rfl rfl) ?_
  refine g_nil ?_
  (repeat refine g_seq ?_)
  refine g_region ?_
  refine g_pu rfl rfl rfl (pu_move rfl rfl) ?_
  refine g_pu rfl rfl rfl (pu_shr64 rfl rfl rfl (by omega)) ?_
  refine g_pu rfl rfl rfl (pu_assign rfl rfl) ?_
  refine g_nil ?_
  (repeat refine g_seq ?_)
  refine g_region ?_
  refine g_pu rfl rfl rfl (pu_move rfl rfl) ?_
  refine g_pu rfl rfl rfl (pu_move rfl rfl) ?_
  refine g_pu rfl rfl rfl (pu_move rfl rfl) ?_
  refine g_pu rfl rfl rfl (pu_mul64 rfl rfl rfl) ?_
  refine g_pu rfl rfl rfl (pu_add64 rfl rfl rfl) ?_
  refine g_pu rfl rfl rfl (pu_assign rfl rfl) ?_
  refine g_nil ?_
  (repeat refine g_seq ?_)
  refine g_region ?_
  refine g_pu rfl rfl rfl (pu_move rfl rfl) ?_
  refine g_pu rfl rfl rfl (pu_move rfl rfl) ?_
  refine g_pu rfl rfl rfl (pu_mul64 rfl rfl rfl) ?_
  refine g_pu rfl rfl rfl (pu_move rfl rfl) ?_
  refine g_pu rfl rfl rfl (pu_add64 rfl rfl rfl) ?_
  refine g_pu rfl rfl rfl (pu_move rfl rfl) ?_
  refine g_pu rfl rfl rfl (pu_shr64 rfl rfl rfl (by omega)) ?_
  refine g_pu rfl rfl rfl (pu_add64 rfl rfl rfl) ?_
  refine g_pu rfl rfl rfl (pu_assign rfl rfl) ?_
  refine g_nil ?_
  (repeat refine g_seq ?_)
  refine g_region ?_
  refine g_pu rfl rfl rfl (pu_move rfl rfl) ?_
  refine g_pu rfl rfl rfl (pu_move rfl rfl) ?_
  refine g_pu rfl rfl rfl (pu_mul64 rfl rfl rfl) ?_
  refine g_pu rfl rfl rfl (pu_assign rfl rfl) ?_
  refine g_nil ?_
  exact g_ret2 rfl rfl rfl (fun w' hm => ⟨(), trivial, by rw [← mulHi_eq]; rfl, hm.grows [] trivial rfl⟩)
end Go.Sx

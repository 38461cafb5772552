import Derived.Test.YtigcogjilfnpcaaGK
import Derived.Test.YtigcogjilfnpcaaYA
set_option linter.unusedVariables false
set_option linter.unusedSimpArgs false
/-
  The fixed fact about X25519, computed. No condition.
-/
namespace Go.Sx
open Go Go.Proofs

def awK : List (BitVec 8) := [165#8, 70#8, 227#8, 107#8, 240#8, 82#8, 124#8, 157#8, 59#8, 22#8, 21#8, 75#8, 130#8, 70#8, 94#8, 221#8, 98#8, 20#8, 76#8, 10#8, 193#8, 252#8, 90#8, 24#8, 80#8, 106#8, 34#8, 68#8, 186#8, 68#8, 154#8, 196#8]
def awU : List (BitVec 8) := [230#8, 219#8, 104#8, 103#8, 88#8, 48#8, 48#8, 219#8, 53#8, 148#8, 193#8, 164#8, 36#8, 177#8, 95#8, 124#8, 114#8, 102#8, 36#8, 236#8, 38#8, 179#8, 53#8, 59#8, 16#8, 169#8, 3#8, 166#8, 208#8, 171#8, 28#8, 76#8]
def awV : Nat := 37325765543539916631701301279660700968428932651319597985674090122993663859395
set_option maxRecDepth 100000 in
theorem aw_lad : lad 34426434033919594451155107781188821651316167215306631574996226621102155684838 31029842492115040904895560451863089656472772604678260265531221036453811406496 255 = (40720446656044610887007743526168351200949085573335588056034522313589005102685, 1913421194926468280838932077950181047858614286606652195677699455974229136423, 45198403963383475001499220223294015390359985422632949493664307348747558308726, 36379949606018683717551128537890270090677201059301795776972403754422640538679) := by
  have h : (lad 34426434033919594451155107781188821651316167215306631574996226621102155684838 31029842492115040904895560451863089656472772604678260265531221036453811406496 255 == (40720446656044610887007743526168351200949085573335588056034522313589005102685, 1913421194926468280838932077950181047858614286606652195677699455974229136423, 45198403963383475001499220223294015390359985422632949493664307348747558308726, 36379949606018683717551128537890270090677201059301795776972403754422640538679)) = true := by kernel_rfl
  exact eq_of_beq h
theorem aw_inv : invN 1913421194926468280838932077950181047858614286606652195677699455974229136423 = 16182784553971376521665912991294993885613170096681619599039146940866607196333 := by
  rw [inv_pm]
  have h : (pm 57896044618658097711785492504343953926634992332820282019728792003956564819949 255 1913421194926468280838932077950181047858614286606652195677699455974229136423 pe == 16182784553971376521665912991294993885613170096681619599039146940866607196333) = true := by kernel_rfl
  exact eq_of_beq h
theorem aw_read : readN awU = 34426434033919594451155107781188821651316167215306631574996226621102155684838 := by
  have h : (readN awU == 34426434033919594451155107781188821651316167215306631574996226621102155684838) = true := by kernel_rfl
  exact eq_of_beq h
theorem aw_clamp : numB (clampL awK) = 31029842492115040904895560451863089656472772604678260265531221036453811406496 := by
  have h : (numB (clampL awK) == 31029842492115040904895560451863089656472772604678260265531221036453811406496) = true := by kernel_rfl
  exact eq_of_beq h
theorem aw_ladV : ladV 34426434033919594451155107781188821651316167215306631574996226621102155684838 31029842492115040904895560451863089656472772604678260265531221036453811406496 = awV := by
  unfold ladV
  rw [aw_lad]
  show ml 40720446656044610887007743526168351200949085573335588056034522313589005102685 (invN 1913421194926468280838932077950181047858614286606652195677699455974229136423) = awV
  rw [aw_inv]
  have h : (ml 40720446656044610887007743526168351200949085573335588056034522313589005102685 16182784553971376521665912991294993885613170096681619599039146940866607196333 == awV) = true := by kernel_rfl
  exact eq_of_beq h
theorem aw_mul : xmN awK awU = awV := by
  have h : xmN awK awU = ladV (readN awU) (numB (clampL awK)) := if_pos ⟨rfl, rfl⟩
  rw [h, aw_read, aw_clamp, aw_ladV]
theorem aw_e : xmE awK awU = 0 := by
  have h : xmE awK awU = if xmN awK awU = 0 then 5 else 0 := if_pos ⟨rfl, rfl⟩
  rw [h, aw_mul]
  exact if_neg (by decide +kernel)
theorem aw_0 : (leB 32 awV)[0]? = some 195#8 := by
  have h : ((leB 32 awV)[0]? == some 195#8) = true := by kernel_rfl
  exact eq_of_beq h
theorem aw_1 : (leB 32 awV)[1]? = some 218#8 := by
  have h : ((leB 32 awV)[1]? == some 218#8) = true := by kernel_rfl
  exact eq_of_beq h
theorem aw_31 : (leB 32 awV)[31]? = some 82#8 := by
  have h : ((leB 32 awV)[31]? == some 82#8) = true := by kernel_rfl
  exact eq_of_beq h
end Go.Sx

/-
  Public, pairs, exchanges, low points, and the fixed fact. The bytes fit memory.
-/
namespace Go.Sx
open Go Go.Proofs

def nine : List (BitVec 8) := leB 32 9
theorem nine_length : nine.length = 32 := leB_length 32 9
theorem fill_two {A : Array Value} {a b : List Value} {s : Nat} (ha : a.length = s) (hb : b.length = s) (hA : A.size = s + s) : Instr.fill (fun i => [(0, s), (s, s)][i]?) A [(0, .agg a.toArray), (1, .agg b.toArray)] = some (a ++ b).toArray := by
  rw [fill_stp (C := a) (off := 0) (s := s) rfl rfl ha (by omega), List.take_zero, List.nil_append]
  have hd : (A.toList.drop (0 + s)).length = s := by rw [List.length_drop, Array.length_toList]; omega
  generalize A.toList.drop (0 + s) = D at hd
  rw [fill_stp (C := b) (off := s) (s := s) rfl rfl hb (by rw [List.size_toArray, List.length_append, hd, ha]; omega)]
  rw [show (a ++ D).toArray.toList.take s = a from List.take_left' ha, show (a ++ D).toArray.toList.drop (s + s) = [] from by
    show (a ++ D).drop (s + s) = []
    exact List.drop_of_length_le (by rw [List.length_append, hd, ha]; omega)]
  simp [Instr.fill]
/-- A pair's cells. -/
def prC (a b : List (BitVec 8)) : List Value := bs a ++ bs b
theorem prC_length {a b : List (BitVec 8)} (ha : a.length = 32) (hb : b.length = 32) : (prC a b).length = 64 := by rw [prC, List.length_append, bs_length, bs_length, ha, hb]
theorem oneCell_prC (a b : List (BitVec 8)) : ∀ u ∈ prC a b, u.oneCell' = true := fun u hu => (List.mem_append.1 hu).elim (oneCell_bs a u) (oneCell_bs b u)
theorem prC_fst {a b : List (BitVec 8)} (ha : a.length = 32) : (prC a b).toArray.extract (0 + 0) (0 + 0 + 32) = (bs a).toArray := by
  apply Array.ext'
  simp only [Array.toList_extract, List.extract_eq_take_drop]
  rw [prC, Nat.add_zero, List.drop_zero, Nat.zero_add, Nat.sub_zero, List.take_left' (by rw [bs_length, ha])]
theorem prC_snd {a b : List (BitVec 8)} (ha : a.length = 32) (hb : b.length = 32) : (prC a b).toArray.extract (0 + 32) (0 + 32 + 32) = (bs b).toArray := by
  apply Array.ext'
  simp only [Array.toList_extract, List.extract_eq_take_drop]
  rw [prC, Nat.zero_add, Nat.add_sub_cancel, List.drop_left' (by rw [bs_length, ha]), List.take_of_length_le (by rw [bs_length, hb]; exact Nat.le_refl _)]


theorem Public_b (w : World) {p : Option Addr} {n : Nat} (c : Nat) {k : List (BitVec 8)} (hk : By w p n k) : Spec Try.prog 69 #[.slice p n c] w (σ := Unit) (fun _ => True) (fun _ => .tuple #[.agg (bs (xmV k nine)).toArray, .int .i64 (xmE k nine)]) Nob (fun _ => []) := by
  refine enter Try.func69 rfl rfl (Mem.start w) ?_
  have h9 := nine_length
  have hbl : (bs (xmV k nine)).length = 32 := by rw [bs_length, xmV_length]
  (repeat refine g_seq ?_)
  refine g_region ?_
  refine g_lo [2] rfl rfl rfl rfl (lo_alloc rfl) (fun b2 hb2 => ?_)
  refine g_pu rfl rfl rfl (pu_assign rfl rfl) ?_
  refine g_nil ?_
  (repeat refine g_seq ?_)
  refine g_region ?_
  refine g_call [] rfl rfl rfl rfl rfl rfl (fun w' hm => Of_b w' 9#64) (fun _ _ => ?_)
  refine g_call [] rfl rfl rfl rfl rfl rfl (fun w' hm => Bytes_n w' 9 (by decide)) (fun _ _ => ?_)
  refine g_lo [4] rfl rfl rfl rfl (lo_alloc rfl) (fun b4 hb4 => ?_)
  refine g_storeL 4 (s := 32) (C := bs nine) rfl rfl rfl rfl rfl rfl (by rw [bs_length, h9]) rfl (oneCell_bs _) ?_
  refine g_nil ?_
  (repeat refine g_seq ?_)
  refine g_region ?_
  refine g_pu rfl rfl rfl (pu_move rfl rfl) ?_
  refine g_pu rfl rfl rfl (pu_sliceA rfl rfl) ?_
  refine g_call [] rfl rfl rfl rfl rfl rfl (fun w' hm => Mult_b w' c 32 (u := nine) (hk.m hm) (By.full 4 rfl hm h9 (by omega))) (fun _ _ => ?_)
  refine g_pu rfl rfl rfl (pu_extract rfl rfl rfl) ?_
  refine g_pu rfl rfl rfl (pu_extract rfl rfl rfl) ?_
  refine g_storeL 2 (s := 32) (C := bs (xmV k nine)) rfl rfl rfl rfl rfl rfl hbl rfl (oneCell_bs _) ?_
  refine g_pu rfl rfl rfl (pu_assign rfl rfl) ?_
  refine g_nil ?_
  exact g_retLT 2 (L := bs (xmV k nine)) rfl hbl rfl rfl rfl (fun w' hm => ⟨(), trivial, rfl, hm.grows [] trivial rfl⟩)


/-- A pair of a private key. -/
def npC (k : List (BitVec 8)) : List Value := if xmE k nine = 0 then prC k (xmV k nine) else prC zero32 zero32
theorem xmE_32 {k u : List (BitVec 8)} (h : xmE k u = 0) : k.length = 32 := by
  unfold xmE at h
  split at h
  · rename_i h2; exact h2.1
  · cases h
theorem npC_length (k : List (BitVec 8)) : (npC k).length = 64 := by
  unfold npC
  split
  · exact prC_length (xmE_32 (by assumption)) (xmV_length _ _)
  · rfl

theorem NewPair_b (w : World) {p : Option Addr} {n : Nat} (c : Nat) {k : List (BitVec 8)} (hk : By w p n k) : Spec Try.prog 67 #[.slice p n c] w (σ := Unit) (fun _ => True) (fun _ => .tuple #[.agg (npC k).toArray, .int .i64 (xmE k nine)]) Nob (fun _ => []) := by
  refine enter Try.func67 rfl rfl (Mem.start w) ?_
  have hkl := hk.len
  have hvl := xmV_length k nine
  have hbl : (bs (xmV k nine)).length = 32 := by rw [bs_length, hvl]
  (repeat refine g_seq ?_)
  refine g_region ?_
  refine g_lo [2] rfl rfl rfl rfl (lo_alloc rfl) (fun b2 hb2 => ?_)
  refine g_pu rfl rfl rfl (pu_assign rfl rfl) ?_
  refine g_nil ?_
  (repeat refine g_seq ?_)
  refine g_region ?_
  refine g_pu rfl rfl rfl (pu_move rfl rfl) ?_
  refine g_call [] rfl rfl rfl rfl rfl rfl (fun w' hm => Public_b w' c (hk.m hm)) (fun _ _ => ?_)
  refine g_pu rfl rfl rfl (pu_move rfl rfl) ?_
  refine g_pu rfl rfl rfl (pu_extract rfl rfl rfl) ?_
  refine g_pu rfl rfl rfl (pu_extract rfl rfl rfl) ?_
  refine g_lo [4] rfl rfl rfl rfl (lo_alloc rfl) (fun b4 hb4 => ?_)
  refine g_storeL 4 (s := 32) (C := bs (xmV k nine)) rfl rfl rfl rfl rfl rfl hbl rfl (oneCell_bs _) ?_
  refine g_pu rfl rfl rfl (pu_assign rfl rfl) ?_
  refine g_nil ?_
  by_cases hE : xmE k nine = 0
  · have hN : npC k = prC k (xmV k nine) := if_pos hE
    have h32 := xmE_32 hE
    have hn32 : n = 32 := by omega
    have hpl := prC_length h32 hvl
    subst hn32
    rw [hN, hE]
    (repeat refine g_seq ?_)
    refine g_region ?_
    refine g_pu rfl rfl rfl (pu_move rfl rfl) ?_
    first | refine g_pu rfl rfl rfl (pu_neq_t rfl rfl rfl (by omega)) ?_ | refine g_pu rfl rfl rfl (pu_neq_f rfl rfl rfl (by omega)) ?_ | refine g_pu rfl rfl rfl (pu_neq rfl rfl rfl) ?_
    refine g_nil ?_
    (repeat refine g_seq ?_)
    refine g_cond_f rfl (g_skip ?_)
    (repeat refine g_seq ?_)
    refine g_any (5, []) ?_
    refine a_pu 0 rfl rfl rfl rfl (pu_move rfl rfl) rfl rfl (by kernel_rfl) ?_
    refine a_pu 1 rfl rfl rfl rfl (pu_s2a (fun w' hm => hk.m hm) rfl rfl (by omega) (by omega)) rfl rfl (by kernel_rfl) ?_
    refine a_pu 2 rfl rfl rfl rfl (pu_rdMA (fun w' hm => (hk.m hm).rd) rfl rfl (by omega) (by rw [bs_length, h32]; omega)) rfl rfl (by kernel_rfl) ?_
    rw [bs_full h32]
    refine a_pu 3 rfl rfl rfl rfl (pu_loadW 4 (L := bs (xmV k nine)) rfl rfl rfl hbl) rfl rfl (by kernel_rfl) ?_
    refine a_pu 4 rfl rfl rfl rfl (pu_buildS (cs := prC k (xmV k nine)) rfl rfl (fill_two (by rw [bs_length, h32]) hbl rfl)) rfl rfl (by kernel_rfl) ?_
    refine a_tail [5, 6] (by kernel_rfl) rfl rfl (by kernel_rfl) ?_
    refine g_storeL 2 (s := 64) (C := prC k (xmV k nine)) rfl rfl rfl rfl rfl rfl hpl rfl (oneCell_prC _ _) ?_
    refine g_pu rfl rfl rfl (pu_assign rfl rfl) ?_
    refine g_nil ?_
    exact g_retLT 2 (L := prC k (xmV k nine)) rfl hpl rfl rfl rfl (fun w' hm => ⟨(), trivial, rfl, hm.grows [] trivial rfl⟩)
  · have hN : npC k = prC zero32 zero32 := if_neg hE
    rw [hN]
    (repeat refine g_seq ?_)
    refine g_region ?_
    refine g_pu rfl rfl rfl (pu_move rfl rfl) ?_
    refine g_pu rfl rfl rfl (pu_neq_t rfl rfl rfl hE) ?_
    refine g_nil ?_
    (repeat refine g_seq ?_)
    refine g_cond_t rfl ?_
    (repeat refine g_seq ?_)
    refine g_region ?_
    refine g_pu rfl rfl rfl (pu_buildS (cs := prC zero32 zero32) rfl rfl rfl) ?_
    refine g_pu rfl rfl rfl (pu_move rfl rfl) ?_
    refine g_storeL 2 (s := 64) (C := prC zero32 zero32) rfl rfl rfl rfl rfl rfl rfl rfl (oneCell_prC _ _) ?_
    refine g_pu rfl rfl rfl (pu_assign rfl rfl) ?_
    refine g_nil ?_
    exact g_retLT 2 (L := prC zero32 zero32) rfl rfl rfl rfl rfl (fun w' hm => ⟨(), trivial, rfl, hm.grows [] trivial rfl⟩)



theorem Low_b (w : World) {q : Option Addr} {m : Nat} (d : Nat) {u : List (BitVec 8)} (hu : By w q m u) : Spec Try.prog 65 #[.slice q m d] w (σ := Unit) (fun _ => True) (fun _ => .tuple #[.bool (decide (xmE zero32 u = 5)), .int .i64 (if xmE zero32 u = 2 then 2 else 0)]) Nob (fun _ => []) := by
  refine enter Try.func65 rfl rfl (Mem.start w) ?_
  have hbl : (bs (xmV zero32 u)).length = 32 := by rw [bs_length, xmV_length]
  (repeat refine g_seq ?_)
  refine g_region ?_
  refine g_pu rfl rfl rfl (pu_assign rfl rfl) ?_
  refine g_pu rfl rfl rfl (pu_assign rfl rfl) ?_
  refine g_nil ?_
  (repeat refine g_seq ?_)
  refine g_region ?_
  refine g_lo [7] rfl rfl rfl rfl (lo_make (n := 32) (c := 32) rfl rfl rfl (by omega) (by omega) (by omega) rfl) (fun b7 hb7 => ?_)
  refine g_pu rfl rfl rfl (pu_move rfl rfl) ?_
  refine g_call [] rfl rfl rfl rfl rfl rfl (fun w' hm => Mult_b w' 32 d (k := zero32) (By.full 7 rfl hm rfl (by omega)) (hu.m hm)) (fun _ _ => ?_)
  refine g_pu rfl rfl rfl (pu_move rfl rfl) ?_
  refine g_pu rfl rfl rfl (pu_extract rfl rfl rfl) ?_
  refine g_pu rfl rfl rfl (pu_extract rfl rfl rfl) ?_
  refine g_lo [4] rfl rfl rfl rfl (lo_alloc rfl) (fun b4 hb4 => ?_)
  refine g_storeL 4 (s := 32) (C := bs (xmV zero32 u)) rfl rfl rfl rfl rfl rfl hbl rfl (oneCell_bs _) ?_
  refine g_pu rfl rfl rfl (pu_assign rfl rfl) ?_
  refine g_nil ?_
  by_cases h2 : xmE zero32 u = 2
  · rw [h2]
    (repeat refine g_seq ?_)
    refine g_region ?_
    refine g_pu rfl rfl rfl (pu_move rfl rfl) ?_
    first | refine g_pu rfl rfl rfl (pu_eql_t rfl rfl rfl (by omega)) ?_ | refine g_pu rfl rfl rfl (pu_eql_f rfl rfl rfl (by omega)) ?_ | refine g_pu rfl rfl rfl (pu_eql rfl rfl rfl) ?_
    refine g_nil ?_
    (repeat refine g_seq ?_)
    refine g_cond_t rfl ?_
    (repeat refine g_seq ?_)
    refine g_region ?_
    refine g_pu rfl rfl rfl (pu_move rfl rfl) ?_
    refine g_pu rfl rfl rfl (pu_assign rfl rfl) ?_
    refine g_pu rfl rfl rfl (pu_assign rfl rfl) ?_
    refine g_nil ?_
    exact g_ret2 rfl rfl rfl (fun w' hm => ⟨(), trivial, rfl, hm.grows [] trivial rfl⟩)
  · rw [if_neg h2]
    (repeat refine g_seq ?_)
    refine g_region ?_
    refine g_pu rfl rfl rfl (pu_move rfl rfl) ?_
    refine g_pu rfl rfl rfl (pu_eql_f rfl rfl rfl h2) ?_
    refine g_nil ?_
    (repeat refine g_seq ?_)
    refine g_cond_f rfl (g_skip ?_)
    (repeat refine g_seq ?_)
    refine g_region ?_
    refine g_pu rfl rfl rfl (pu_move rfl rfl) ?_
    refine g_pu rfl rfl rfl (pu_eql rfl rfl rfl) ?_
    refine g_pu rfl rfl rfl (pu_assign rfl rfl) ?_
    refine g_pu rfl rfl rfl (pu_assign rfl rfl) ?_
    refine g_nil ?_
    exact g_ret2 rfl rfl rfl (fun w' hm => ⟨(), trivial, rfl, hm.grows [] trivial rfl⟩)
end Go.Sx

/-
  Chains of multiplications, of the program and of the document. The bytes fit memory.
-/
namespace Go.Sx
open Go Go.Proofs

def chR : List (List (BitVec 8)) → List (BitVec 8) → List (BitVec 8) × Int
  | [], at' => (at', 0)
  | k :: r, at' => if xmE k at' = 0 then chR r (xmV k at') else (zero32, xmE k at')
def all32 (ks : List (List (BitVec 8))) : Bool := ks.all fun k => k.length == 32
def chP (u : List (BitVec 8)) (ks : List (List (BitVec 8))) : List (BitVec 8) × Int := if u.length = 32 ∧ all32 ks = true then chR ks (leB 32 (readN u)) else (zero32, 2)
theorem chR_length : ∀ (ks : List (List (BitVec 8))) (a : List (BitVec 8)), a.length = 32 → (chR ks a).1.length = 32
  | [], a, h => h
  | k :: r, a, h => by
    unfold chR
    split
    · exact chR_length r _ (xmV_length _ _)
    · rfl
theorem chP_length (u : List (BitVec 8)) (ks : List (List (BitVec 8))) : (chP u ks).1.length = 32 := by
  unfold chP
  split
  · exact chR_length _ _ (leB_length 32 _)
  · rfl
theorem all32_take {ks : List (List (BitVec 8))} {i : Nat} {k : List (BitVec 8)} (h : ks[i]? = some k) : all32 (ks.take (i + 1)) = (all32 (ks.take i) && (k.length == 32)) := by
  unfold all32
  rw [List.take_add_one, h, List.all_append]
  simp
theorem chR_drop {ks : List (List (BitVec 8))} {i : Nat} {k : List (BitVec 8)} (h : ks[i]? = some k) (a : List (BitVec 8)) : chR (ks.drop i) a = if xmE k a = 0 then chR (ks.drop (i + 1)) (xmV k a) else (zero32, xmE k a) := by
  have hi := (List.getElem?_eq_some_iff.1 h)
  rw [List.drop_eq_getElem_cons hi.1, hi.2]
  rfl
theorem readN_ltK {u : List (BitVec 8)} (h : u.length = 32) : readN u < 57896044618658097711785492504343953926634992332820282019728792003956564819949 := by
  unfold readN
  rw [if_pos h]
  exact Nat.mod_lt _ (by decide)
def badE (u : List (BitVec 8)) (b : Bool) : Int := if b then readE u else 2

theorem Chain_b (w : World) {p q : Option Addr} {n m : Nat} (c d : Nat) {u : List (BitVec 8)} {L : List Value} {ks : List (List (BitVec 8))} (hu : By w p n u) (ha : ByL w q m L ks) : Spec Try.prog 59 #[.slice p n c, .slice q m d] w (σ := Unit) (fun _ => True) (fun _ => .tuple #[.agg (bs (chP u ks).1).toArray, .int .i64 (chP u ks).2]) Nob (fun _ => []) := by
  refine enter Try.func59 rfl rfl (Mem.start w) ?_
  have hul := hu.len
  have hLn := ha.len
  have hbig := ha.big
  have hln := ha.lenL
  (repeat refine g_seq ?_)
  refine g_region ?_
  refine g_lo [4] rfl rfl rfl rfl (lo_alloc rfl) (fun b4 hb4 => ?_)
  refine g_pu rfl rfl rfl (pu_assign rfl rfl) ?_
  refine g_nil ?_
  (repeat refine g_seq ?_)
  refine g_region ?_
  refine g_pu rfl rfl rfl (pu_move rfl rfl) ?_
  refine g_call [] rfl rfl rfl rfl rfl rfl (fun w' hm => Read_b w' c (hu.m hm)) (fun _ _ => ?_)
  refine g_pu rfl rfl rfl (pu_move rfl rfl) ?_
  refine g_pu rfl rfl rfl (pu_extract rfl rfl rfl) ?_
  refine g_pu rfl rfl rfl (pu_extract rfl rfl rfl) ?_
  refine g_lo [6] rfl rfl rfl rfl (lo_alloc rfl) (fun b6 hb6 => ?_)
  refine g_storeL 6 (s := 4) (C := el (readN u)) rfl rfl rfl rfl rfl rfl rfl rfl (oneCell_el _) ?_
  refine g_pu rfl rfl rfl (pu_assign rfl rfl) ?_
  refine g_nil ?_
  (repeat refine g_seq ?_)
  refine g_region ?_
  refine g_pu rfl rfl rfl (pu_move rfl rfl) ?_
  first | refine g_pu rfl rfl rfl (pu_len rfl rfl) ?_ | refine g_pu rfl rfl rfl (pu_lenS rfl rfl) ?_
  refine g_pu rfl rfl rfl (pu_move rfl rfl) ?_
  refine g_nil ?_
  (repeat refine g_seq ?_)
  refine g_block (g_loop (σ := Nat) (fun i => [(1, .slice q m d), (4, .pointer (some ⟨b4, 0, none⟩)), (6, .pointer (some ⟨b6, 0, none⟩)), (7, .int .i64 (badE u (all32 (ks.take i)))), (18, .slice q m d), (19, .int .i64 (m : Int)), (20, .int .i64 (i : Int))]) (fun _ => [(4, .pt b4 (.cells (bs zero32).toArray 24 (0, 0))), (6, .pt b6 (.cells (el (readN u)).toArray 132 (0, 0)))]) (fun i => i ≤ m) (fun i => m - i) 0 ⟨rfl, rfl, rfl, rfl, rfl, rfl, rfl, trivial⟩ ⟨rfl, rfl, trivial⟩ (by omega) ?_)
  intro i hi
  by_cases hlt : i < m
  · (repeat refine g_seq ?_)
    refine g_region ?_
    first | refine g_pu rfl rfl rfl (pu_lss_t rfl rfl rfl (by omega)) ?_ | refine g_pu rfl rfl rfl (pu_lss_f rfl rfl rfl (by omega)) ?_ | refine g_pu rfl rfl rfl (pu_lss rfl rfl rfl) ?_
    refine g_nil ?_
    (repeat refine g_seq ?_)
    refine g_cond_t rfl (g_skip ?_)
    have hl : ks[i]? = some ks[i] := List.getElem?_eq_getElem (by omega)
    have ht := all32_take hl
    generalize ks[i] = k at hl ht
    obtain ⟨kq, km, kc, hL, hkq⟩ := ha.at hl
    have hkl := hkq.len
    (repeat refine g_seq ?_); refine g_block ?_
    (repeat refine g_seq ?_)
    refine g_region ?_
    refine g_pu rfl rfl rfl (pu_atM1 i (fun w' hm => (ha.m hm).rd) rfl rfl rfl rfl hlt (by omega)) ?_
    refine g_pu rfl rfl rfl (pu_rdM (fun w' hm => (ha.m hm).rd) rfl rfl hL) ?_
    refine g_pu rfl rfl rfl (pu_assign rfl rfl) ?_
    refine g_nil ?_
    by_cases h32 : km = 32
    · (repeat refine g_seq ?_)
      refine g_region ?_
      refine g_pu rfl rfl rfl (pu_move rfl rfl) ?_
      first | refine g_pu rfl rfl rfl (pu_len rfl rfl) ?_ | refine g_pu rfl rfl rfl (pu_lenS rfl rfl) ?_
      first | refine g_pu rfl rfl rfl (pu_neq_t rfl rfl rfl (by omega)) ?_ | refine g_pu rfl rfl rfl (pu_neq_f rfl rfl rfl (by omega)) ?_ | refine g_pu rfl rfl rfl (pu_neq rfl rfl rfl) ?_
      refine g_nil ?_
      (repeat refine g_seq ?_)
      refine g_cond_f rfl (g_skip ?_)
      refine g_blk ?_
      (repeat refine g_seq ?_)
      refine g_region ?_
      refine g_pu rfl rfl rfl (pu_addI rfl rfl rfl (by omega)) ?_
      refine g_pu rfl rfl rfl (pu_move rfl rfl) ?_
      refine g_nil ?_
      exact g_round (i + 1) (by omega) (by omega) ⟨rfl, rfl, rfl, by rw [ht, show (k.length == 32) = true by rw [hkl, h32]; rfl, Bool.and_true]; rfl, rfl, rfl, rfl, trivial⟩ ⟨rfl, rfl, trivial⟩
    · (repeat refine g_seq ?_)
      refine g_region ?_
      refine g_pu rfl rfl rfl (pu_move rfl rfl) ?_
      first | refine g_pu rfl rfl rfl (pu_len rfl rfl) ?_ | refine g_pu rfl rfl rfl (pu_lenS rfl rfl) ?_
      first | refine g_pu rfl rfl rfl (pu_neq_t rfl rfl rfl (by omega)) ?_ | refine g_pu rfl rfl rfl (pu_neq_f rfl rfl rfl (by omega)) ?_ | refine g_pu rfl rfl rfl (pu_neq rfl rfl rfl) ?_
      refine g_nil ?_
      (repeat refine g_seq ?_)
      refine g_cond_t rfl ?_
      (repeat refine g_seq ?_)
      refine g_region ?_
      refine g_pu rfl rfl rfl (pu_assign rfl rfl) ?_
      refine g_nil ?_
      refine g_blk ?_
      (repeat refine g_seq ?_)
      refine g_region ?_
      refine g_pu rfl rfl rfl (pu_addI rfl rfl rfl (by omega)) ?_
      refine g_pu rfl rfl rfl (pu_move rfl rfl) ?_
      refine g_nil ?_
      exact g_round (i + 1) (by omega) (by omega) ⟨rfl, rfl, rfl, by rw [ht, show (k.length == 32) = false by rw [hkl]; exact beq_false_of_ne h32, Bool.and_false]; rfl, rfl, rfl, rfl, trivial⟩ ⟨rfl, rfl, trivial⟩
  · (repeat refine g_seq ?_)
    refine g_region ?_
    first | refine g_pu rfl rfl rfl (pu_lss_t rfl rfl rfl (by omega)) ?_ | refine g_pu rfl rfl rfl (pu_lss_f rfl rfl rfl (by omega)) ?_ | refine g_pu rfl rfl rfl (pu_lss rfl rfl rfl) ?_
    refine g_nil ?_
    (repeat refine g_seq ?_)
    refine g_cond_f rfl (g_exit rfl ?_)
    rw [List.take_of_length_le (by omega)]
    by_cases hok : u.length = 32 ∧ all32 ks = true
    · obtain ⟨hu32, h32⟩ := hok
      have hP : chP u ks = chR ks (leB 32 (readN u)) := if_pos ⟨hu32, h32⟩
      have hB : badE u (all32 ks) = 0 := by rw [h32]; exact if_pos hu32
      have hrl := readN_ltK hu32
      have hbl : (bs (leB 32 (readN u))).length = 32 := by rw [bs_length, leB_length]
      rw [hP, hB]
      (repeat refine g_seq ?_)
      refine g_region ?_
      refine g_pu rfl rfl rfl (pu_move rfl rfl) ?_
      first | refine g_pu rfl rfl rfl (pu_neq_t rfl rfl rfl (by omega)) ?_ | refine g_pu rfl rfl rfl (pu_neq_f rfl rfl rfl (by omega)) ?_ | refine g_pu rfl rfl rfl (pu_neq rfl rfl rfl) ?_
      refine g_nil ?_
      (repeat refine g_seq ?_)
      refine g_cond_f rfl (g_skip ?_)
      (repeat refine g_seq ?_)
      refine g_region ?_
      refine g_pu rfl rfl rfl (pu_loadW 6 (L := el (readN u)) rfl rfl rfl rfl) ?_
      refine g_call [] rfl rfl rfl rfl rfl rfl (fun w' hm => Bytes_n w' (readN u) hrl) (fun _ _ => ?_)
      refine g_lo [10] rfl rfl rfl rfl (lo_alloc rfl) (fun b10 hb10 => ?_)
      refine g_storeL 10 (s := 32) (C := bs (leB 32 (readN u))) rfl rfl rfl rfl rfl rfl hbl rfl (oneCell_bs _) ?_
      refine g_nil ?_
      (repeat refine g_seq ?_)
      refine g_region ?_
      refine g_pu rfl rfl rfl (pu_move rfl rfl) ?_
      first | refine g_pu rfl rfl rfl (pu_len rfl rfl) ?_ | refine g_pu rfl rfl rfl (pu_lenS rfl rfl) ?_
      refine g_pu rfl rfl rfl (pu_move rfl rfl) ?_
      refine g_nil ?_
      (repeat refine g_seq ?_)
      refine g_block (g_loop2 (fun (i : Nat) (a : List (BitVec 8)) => [(4, .pointer (some ⟨b4, 0, none⟩)), (7, .int .i64 0), (10, .pointer (some ⟨b10, 0, none⟩)), (34, .slice q m d), (35, .int .i64 (m : Int)), (36, .int .i64 (i : Int))]) (fun _ a => [(4, .pt b4 (.cells (bs zero32).toArray 24 (0, 0))), (10, .pt b10 (.cells (bs a).toArray 24 (0, 0)))]) (fun i a => i ≤ m ∧ a.length = 32 ∧ chR (ks.drop i) a = chR ks (leB 32 (readN u))) (fun i _ => m - i) 0 (leB 32 (readN u)) ⟨rfl, rfl, rfl, rfl, rfl, rfl, trivial⟩ ⟨rfl, rfl, trivial⟩ ⟨by omega, leB_length 32 _, rfl⟩ ?_)
      intro i a ⟨hi, hal, hch⟩
      by_cases hlt : i < m
      · (repeat refine g_seq ?_)
        refine g_region ?_
        first | refine g_pu rfl rfl rfl (pu_lss_t rfl rfl rfl (by omega)) ?_ | refine g_pu rfl rfl rfl (pu_lss_f rfl rfl rfl (by omega)) ?_ | refine g_pu rfl rfl rfl (pu_lss rfl rfl rfl) ?_
        refine g_nil ?_
        (repeat refine g_seq ?_)
        refine g_cond_t rfl (g_skip ?_)
        have hl : ks[i]? = some ks[i] := List.getElem?_eq_getElem (by omega)
        have ht := chR_drop hl a
        generalize ks[i] = k at hl ht
        obtain ⟨kq, km, kc, hL, hkq⟩ := ha.at hl
        rw [hch] at ht
        have hvl := xmV_length k a
        have hvb : (bs (xmV k a)).length = 32 := by rw [bs_length, hvl]
        (repeat refine g_seq ?_); refine g_block ?_
        (repeat refine g_seq ?_)
        refine g_region ?_
        refine g_pu rfl rfl rfl (pu_atM1 i (fun w' hm => (ha.m hm).rd) rfl rfl rfl rfl hlt (by omega)) ?_
        refine g_pu rfl rfl rfl (pu_rdM (fun w' hm => (ha.m hm).rd) rfl rfl hL) ?_
        refine g_pu rfl rfl rfl (pu_assign rfl rfl) ?_
        refine g_nil ?_
        (repeat refine g_seq ?_)
        refine g_region ?_
        refine g_pu rfl rfl rfl (pu_move rfl rfl) ?_
        refine g_pu rfl rfl rfl (pu_sliceA rfl rfl) ?_
        refine g_call [] rfl rfl rfl rfl rfl rfl (fun w' hm => Mult_b w' kc 32 (hkq.m hm) (By.full 10 rfl hm hal (by omega))) (fun _ _ => ?_)
        refine g_pu rfl rfl rfl (pu_move rfl rfl) ?_
        refine g_pu rfl rfl rfl (pu_extract rfl rfl rfl) ?_
        refine g_pu rfl rfl rfl (pu_extract rfl rfl rfl) ?_
        refine g_storeL 10 (s := 32) (C := bs (xmV k a)) rfl rfl rfl rfl rfl rfl hvb (by rw [bs_length, hal]) (oneCell_bs _) ?_
        refine g_pu rfl rfl rfl (pu_assign rfl rfl) ?_
        refine g_nil ?_
        by_cases hE : xmE k a = 0
        · rw [if_pos hE] at ht
          rw [hE]
          (repeat refine g_seq ?_)
          refine g_region ?_
          refine g_pu rfl rfl rfl (pu_move rfl rfl) ?_
          first | refine g_pu rfl rfl rfl (pu_neq_t rfl rfl rfl (by omega)) ?_ | refine g_pu rfl rfl rfl (pu_neq_f rfl rfl rfl (by omega)) ?_ | refine g_pu rfl rfl rfl (pu_neq rfl rfl rfl) ?_
          refine g_nil ?_
          (repeat refine g_seq ?_)
          refine g_cond_f rfl (g_skip ?_)
          refine g_blk ?_
          (repeat refine g_seq ?_)
          refine g_region ?_
          refine g_pu rfl rfl rfl (pu_addI rfl rfl rfl (by omega)) ?_
          refine g_pu rfl rfl rfl (pu_move rfl rfl) ?_
          refine g_nil ?_
          exact g_round2 (i + 1) (xmV k a) ⟨by omega, hvl, ht.symm⟩ (by omega) ⟨rfl, rfl, rfl, rfl, rfl, rfl, trivial⟩ ⟨rfl, rfl, trivial⟩
        · rw [if_neg hE] at ht
          rw [ht]
          (repeat refine g_seq ?_)
          refine g_region ?_
          refine g_pu rfl rfl rfl (pu_move rfl rfl) ?_
          refine g_pu rfl rfl rfl (pu_neq_t rfl rfl rfl hE) ?_
          refine g_nil ?_
          (repeat refine g_seq ?_)
          refine g_cond_t rfl ?_
          (repeat refine g_seq ?_)
          refine g_region ?_
          refine g_pu rfl rfl rfl (pu_buildA' (cs := bs zero32) rfl rfl rfl) ?_
          refine g_pu rfl rfl rfl (pu_move rfl rfl) ?_
          refine g_storeL 4 (s := 32) (C := bs zero32) rfl rfl rfl rfl rfl rfl rfl rfl (oneCell_bs _) ?_
          refine g_pu rfl rfl rfl (pu_assign rfl rfl) ?_
          refine g_nil ?_
          exact g_retLT 4 (L := bs zero32) rfl rfl rfl rfl rfl (fun w' hm => ⟨(), trivial, rfl, hm.grows [] trivial rfl⟩)
      · (repeat refine g_seq ?_)
        refine g_region ?_
        first | refine g_pu rfl rfl rfl (pu_lss_t rfl rfl rfl (by omega)) ?_ | refine g_pu rfl rfl rfl (pu_lss_f rfl rfl rfl (by omega)) ?_ | refine g_pu rfl rfl rfl (pu_lss rfl rfl rfl) ?_
        refine g_nil ?_
        (repeat refine g_seq ?_)
        refine g_cond_f rfl (g_exit rfl ?_)
        have hab : (bs a).length = 32 := by rw [bs_length, hal]
        rw [List.drop_of_length_le (by omega)] at hch
        rw [← hch]
        (repeat refine g_seq ?_)
        refine g_region ?_
        refine g_pu rfl rfl rfl (pu_loadW 10 (L := bs a) rfl rfl rfl hab) ?_
        refine g_storeL 4 (s := 32) (C := bs a) rfl rfl rfl rfl rfl rfl hab rfl (oneCell_bs _) ?_
        refine g_pu rfl rfl rfl (pu_assign rfl rfl) ?_
        refine g_nil ?_
        exact g_retLT 4 (L := bs a) rfl hab rfl rfl rfl (fun w' hm => ⟨(), trivial, rfl, hm.grows [] trivial rfl⟩)
    · have hP : chP u ks = (zero32, 2) := if_neg hok
      have hB : badE u (all32 ks) = 2 := by
        unfold badE
        split
        · rename_i h; exact if_neg (fun h' => hok ⟨h', h⟩)
        · rfl
      rw [hP, hB]
      (repeat refine g_seq ?_)
      refine g_region ?_
      refine g_pu rfl rfl rfl (pu_move rfl rfl) ?_
      first | refine g_pu rfl rfl rfl (pu_neq_t rfl rfl rfl (by omega)) ?_ | refine g_pu rfl rfl rfl (pu_neq_f rfl rfl rfl (by omega)) ?_ | refine g_pu rfl rfl rfl (pu_neq rfl rfl rfl) ?_
      refine g_nil ?_
      (repeat refine g_seq ?_)
      refine g_cond_t rfl ?_
      (repeat refine g_seq ?_)
      refine g_region ?_
      refine g_pu rfl rfl rfl (pu_buildA' (cs := bs zero32) rfl rfl rfl) ?_
      refine g_pu rfl rfl rfl (pu_move rfl rfl) ?_
      refine g_storeL 4 (s := 32) (C := bs zero32) rfl rfl rfl rfl rfl rfl rfl rfl (oneCell_bs _) ?_
      refine g_pu rfl rfl rfl (pu_assign rfl rfl) ?_
      refine g_nil ?_
      exact g_retLT 4 (L := bs zero32) rfl rfl rfl rfl rfl (fun w' hm => ⟨(), trivial, rfl, hm.grows [] trivial rfl⟩)

end Go.Sx

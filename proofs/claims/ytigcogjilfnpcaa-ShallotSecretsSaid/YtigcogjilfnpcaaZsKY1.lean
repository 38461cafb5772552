import Derived.Test.YtigcogjilfnpcaaZsGL
import Derived.Test.YtigcogjilfnpcaaZsGM
import Derived.Test.YtigcogjilfnpcaaZsXE
set_option linter.unusedVariables false
set_option linter.unusedSimpArgs false
/-
  The keys of a secret, a hop's step and what the next hop gets, of the program and of the document. The lists fit memory.
-/
namespace Go.Sx
open Go Go.Proofs

def kyMac : ByteArray := ⟨#[109, 97, 99]⟩
def kyStream : ByteArray := ⟨#[115, 116, 114, 101, 97, 109]⟩
def kyPay : ByteArray := ⟨#[112, 97, 121]⟩
def kyBlind : ByteArray := ⟨#[98, 108, 105, 110, 100]⟩
def kyLabs : List ByteArray := [kyMac, kyStream, kyPay, kyBlind]
theorem kyLabs_size : ∀ s ∈ kyLabs, s.size ≤ 140737488355072 := fun s hs => by
  simp only [kyLabs, List.mem_cons, List.not_mem_nil, or_false] at hs
  rcases hs with rfl | rfl | rfl | rfl <;> (show _ ≤ _; decide)
def kMac (s : List (BitVec 8)) : List (BitVec 8) := drvL s (bytesOf kyMac)
def kStream (s : List (BitVec 8)) : List (BitVec 8) := drvL s (bytesOf kyStream)
def kPay (s : List (BitVec 8)) : List (BitVec 8) := drvL s (bytesOf kyPay)
def kBlind (s : List (BitVec 8)) : List (BitVec 8) := drvL s (bytesOf kyBlind)
theorem kMac_length (s : List (BitVec 8)) : (kMac s).length = 32 := drvL_length _ _
theorem kStream_length (s : List (BitVec 8)) : (kStream s).length = 32 := drvL_length _ _
theorem kPay_length (s : List (BitVec 8)) : (kPay s).length = 32 := drvL_length _ _
theorem kBlind_length (s : List (BitVec 8)) : (kBlind s).length = 32 := drvL_length _ _
/-- The four keys in a row. -/
def ksL (s : List (BitVec 8)) : List (BitVec 8) := kMac s ++ (kStream s ++ (kPay s ++ kBlind s))
theorem ksL_length (s : List (BitVec 8)) : (ksL s).length = 128 := by simp only [ksL, List.length_append, kMac_length, kStream_length, kPay_length, kBlind_length]
theorem ksL_drvs (s : List (BitVec 8)) : drvs s kyLabs = ksL s := by
  show [kMac s, kStream s, kPay s, kBlind s].flatten = _
  simp [ksL]
def zeroL (n : Nat) : List (BitVec 8) := List.replicate n 0#8
theorem bs_zeroL (n : Nat) : bs (zeroL n) = List.replicate n (b8 0#8) := by simp [bs, zeroL]
theorem zeroL_length (n : Nat) : (zeroL n).length = n := List.length_replicate
def ofV (s : List (BitVec 8)) : List (BitVec 8) := if s.length = 32 then ksL s else zeroL 128
def ofE (n : Nat) : Int := if n = 32 then 0 else 2
theorem ofV_length (s : List (BitVec 8)) : (ofV s).length = 128 := by
  unfold ofV
  split
  · exact ksL_length s
  · rfl
theorem ofV_32 {s : List (BitVec 8)} (h : s.length = 32) : ofV s = ksL s := if_pos h
/-- A step's bytes. -/
def stL' (a s : List (BitVec 8)) : List (BitVec 8) := ofV s ++ (a ++ s)
theorem stL'_length {a s : List (BitVec 8)} (ha : a.length = 32) (hs : s.length = 32) : (stL' a s).length = 192 := by simp only [stL', List.length_append, ofV_length, ha, hs]
theorem drop_mid {α : Type} {X Y Z : List α} {n m : Nat} (hX : X.length = n) (hY : Y.length = m) : ((X ++ (Y ++ Z)).drop n).take m = Y := by rw [List.drop_left' hX, List.take_left' hY]
theorem ksL_mac (s : List (BitVec 8)) : ((ksL s).drop 0).take 32 = kMac s := by rw [List.drop_zero]; exact List.take_left' (kMac_length s)
theorem ksL_stream (s : List (BitVec 8)) : ((ksL s).drop 32).take 32 = kStream s := drop_mid (kMac_length s) (kStream_length s)
theorem ksL_pay (s : List (BitVec 8)) : ((ksL s).drop 64).take 32 = kPay s := by
  rw [ksL, ← List.append_assoc]
  exact drop_mid (by rw [List.length_append, kMac_length, kStream_length]) (kPay_length s)
theorem ksL_blind (s : List (BitVec 8)) : ((ksL s).drop 96).take 32 = kBlind s := by
  rw [ksL, ← List.append_assoc, ← List.append_assoc, List.drop_left' (by simp only [List.length_append, kMac_length, kStream_length, kPay_length]), List.take_of_length_le (by rw [kBlind_length]; exact Nat.le_refl _)]
theorem bs_cut {l k : List (BitVec 8)} {i n : Nat} (h : (l.drop i).take n = k) : ((bs l).drop i).take n = bs k := by rw [bs_drop, bs_take, h]
theorem stL'_alpha {a s : List (BitVec 8)} (ha : a.length = 32) : ((stL' a s).drop 128).take 32 = a := drop_mid (ofV_length s) ha
theorem stL'_secret {a s : List (BitVec 8)} (ha : a.length = 32) (hs : s.length = 32) : ((stL' a s).drop 160).take 32 = s := by
  rw [stL', ← List.append_assoc, List.drop_left' (by rw [List.length_append, ofV_length, ha]), List.take_of_length_le (by omega)]
theorem stL'_cut {a s : List (BitVec 8)} {i n : Nat} (h : i + n ≤ 128) : ((stL' a s).drop i).take n = ((ofV s).drop i).take n := by
  have h0 := ofV_length s
  rw [stL', List.drop_append_of_le_length (by omega), List.take_append_of_le_length (by rw [List.length_drop]; omega)]
theorem stL'_blind {a s : List (BitVec 8)} (hs : s.length = 32) : ((stL' a s).drop 96).take 32 = kBlind s := by rw [stL'_cut (by omega), ofV_32 hs, ksL_blind]
theorem stL'_pay {a s : List (BitVec 8)} (hs : s.length = 32) : ((stL' a s).drop 64).take 32 = kPay s := by rw [stL'_cut (by omega), ofV_32 hs, ksL_pay]
theorem stL'_mac {a s : List (BitVec 8)} (hs : s.length = 32) : ((stL' a s).drop 0).take 32 = kMac s := by rw [stL'_cut (by omega), ofV_32 hs, ksL_mac]
theorem fill_next {pl : Nat → Option (Nat × Nat)} {X Z C : List Value} {i off s : Nat} {r : List (Nat × Value)} (hp : pl i = some (off, s)) (hX : X.length = off) (hC : C.length = s) (hZ : s ≤ Z.length) :
    Instr.fill pl (X ++ Z).toArray ((i, .agg C.toArray) :: r) = Instr.fill pl ((X ++ C) ++ Z.drop s).toArray r := by
  rw [fill_stp (C := C) (off := off) (s := s) rfl hp hC (by rw [List.size_toArray, List.length_append]; omega)]
  show Instr.fill pl ((X ++ Z).take off ++ C ++ (X ++ Z).drop (off + s)).toArray r = _
  rw [List.take_left' hX, List.drop_append, hX, show off + s - off = s by omega, List.drop_of_length_le (by omega), List.nil_append]
theorem fill_end {pl : Nat → Option (Nat × Nat)} {X Z : List Value} (hZ : Z.length = 0) : Instr.fill pl (X ++ Z).toArray [] = some X.toArray := by
  rw [List.eq_nil_of_length_eq_zero hZ, List.append_nil]; rfl
theorem fill_keys {A : Array Value} {s : List (BitVec 8)} (hA : A.size = 128) : Instr.fill (fun i => [(0, 32), (32, 32), (64, 32), (96, 32)][i]?) A [(0, .agg (bs (kMac s)).toArray), (1, .agg (bs (kStream s)).toArray), (2, .agg (bs (kPay s)).toArray), (3, .agg (bs (kBlind s)).toArray)] = some (bs (ksL s)).toArray := by
  have e : A = ([] ++ A.toList).toArray := by simp
  have h1 := bs_length (kMac s)
  have h2 := bs_length (kStream s)
  have h3 := bs_length (kPay s)
  have h4 := bs_length (kBlind s)
  rw [kMac_length] at h1
  rw [kStream_length] at h2
  rw [kPay_length] at h3
  rw [kBlind_length] at h4
  have hl : A.toList.length = 128 := by rw [Array.length_toList, hA]
  rw [e, fill_next (off := 0) (s := 32) rfl rfl h1 (by omega), fill_next (off := 32) (s := 32) rfl (by simp [h1]) h2 (by rw [List.length_drop]; omega), fill_next (off := 64) (s := 32) rfl (by simp [h1, h2]) h3 (by simp only [List.length_drop]; omega), fill_next (off := 96) (s := 32) rfl (by simp [h1, h2, h3]) h4 (by simp only [List.length_drop]; omega), fill_end (by simp only [List.length_drop]; omega)]
  simp only [ksL, bs_append, List.nil_append, List.append_assoc]
theorem fill_step {A : Array Value} {a s : List (BitVec 8)} (ha : a.length = 32) (hs : s.length = 32) (hA : A.size = 192) : Instr.fill (fun i => [(0, 128), (128, 32), (160, 32)][i]?) A [(0, .agg (bs (ofV s)).toArray), (1, .agg (bs a).toArray), (2, .agg (bs s).toArray)] = some (bs (stL' a s)).toArray := by
  have e : A = ([] ++ A.toList).toArray := by simp
  have h1 := bs_length (ofV s)
  have h2 := bs_length a
  have h3 := bs_length s
  rw [ofV_length] at h1
  rw [ha] at h2
  rw [hs] at h3
  have hl : A.toList.length = 192 := by rw [Array.length_toList, hA]
  rw [e, fill_next (off := 0) (s := 128) rfl rfl h1 (by omega), fill_next (off := 128) (s := 32) rfl (by simp [h1]) h2 (by rw [List.length_drop]; omega), fill_next (off := 160) (s := 32) rfl (by simp [h1, h2]) h3 (by simp only [List.length_drop]; omega), fill_end (by simp only [List.length_drop]; omega)]
  simp only [stL', bs_append, List.nil_append, List.append_assoc]
theorem By.sub (t : Nat) {w0 w : World} {D : Blocks} {M : List (Nat × Ck)} {b off n : Nat} {E : TypeId} {fz : Nat × Nat} {L l : List (BitVec 8)} (hM : mget M t = some (.pt b (.cells (bs L).toArray E fz))) (hm : Mem w0 D M w) (hl : (L.drop off).take n = l) (hn : l.length = n) (hb : n ≤ 140737488355328) : By w (some ⟨b, off, none⟩) n l := by
  refine ⟨RdV.pt (hm.holds t _ hM) (fun i v hv => ?_), hn, hb⟩
  rw [← hl, ← bs_take, ← bs_drop] at hv
  have hi : i < n := by
    have := (List.getElem?_eq_some_iff.1 hv).1
    rw [List.length_take] at this; omega
  rw [List.getElem?_take_of_lt hi, List.getElem?_drop] at hv
  rw [List.getElem?_toArray]; exact hv

instance zerBig141 : Zer Try.prog 141 (.agg (List.replicate 128 (b8 0#8)).toArray) := ⟨by kernel_rfl⟩
instance zerBig153 : Zer Try.prog 153 (.agg (List.replicate 192 (b8 0#8)).toArray) := ⟨by kernel_rfl⟩

theorem Of12_b (w : World) {p : Option Addr} {n : Nat} (c : Nat) {s : List (BitVec 8)} (ha : By w p n s) : Spec Try.prog 66 #[.slice p n c] w (σ := Unit) (fun _ => True) (fun _ => .tuple #[.agg (bs (ofV s)).toArray, .int .i64 (ofE n)]) Nob (fun _ => []) := by
  refine enter Try.func66 rfl rfl (Mem.start w) ?_
  have hsl := ha.len
  (repeat refine g_seq ?_)
  refine g_region ?_
  refine g_lo [2] rfl rfl rfl rfl (lo_alloc rfl) (fun b2 hb2 => ?_)
  refine g_pu rfl rfl rfl (pu_assign rfl rfl) ?_
  refine g_nil ?_
  by_cases h32 : n = 32
  · subst h32
    have hV : ofV s = ksL s := ofV_32 hsl
    have hE : ofE 32 = 0 := rfl
    have hkl : (bs (ksL s)).length = 128 := by rw [bs_length, ksL_length]
    rw [hV, hE]
    (repeat refine g_seq ?_)
    refine g_region ?_
    refine g_pu rfl rfl rfl (pu_move rfl rfl) ?_
    first | refine g_pu rfl rfl rfl (pu_len rfl rfl) ?_ | refine g_pu rfl rfl rfl (pu_lenS rfl rfl) ?_
    first | refine g_pu rfl rfl rfl (pu_neq_t rfl rfl rfl (by omega)) ?_ | refine g_pu rfl rfl rfl (pu_neq_f rfl rfl rfl (by omega)) ?_ | refine g_pu rfl rfl rfl (pu_neq rfl rfl rfl) ?_
    refine g_nil ?_
    (repeat refine g_seq ?_)
    refine g_cond_f rfl (g_skip ?_)
    (repeat refine g_seq ?_)
    refine g_region ?_
    refine g_pu rfl rfl rfl (pu_move rfl rfl) ?_
    refine g_lo [10] rfl rfl rfl rfl (lo_buildSlice rfl rfl (by decide) (by decide) rfl rfl) (fun b10 hb10 => ?_)
    refine g_call [11] rfl rfl rfl rfl rfl rfl (fun w' hm => Derive_b w' c 4 (ss := kyLabs) (ha.m hm) (hm.rowA 10 (L := kyLabs.map Value.string) rfl) rfl (by omega) (by omega) kyLabs_size) (fun x11 _ => ?_)
    rw [ksL_drvs]
    refine g_pu rfl rfl rfl (pu_assign rfl rfl) ?_
    refine g_nil ?_
    (repeat refine g_seq ?_)
    refine g_any (13, []) ?_
    refine a_pu 0 rfl rfl rfl rfl (pu_move rfl rfl) rfl rfl (by kernel_rfl) ?_
    refine a_pu 1 rfl rfl rfl rfl (pu_atM 0 (s := 32) (L := bs (ksL s)) (fun w' hm => Ow.rd (t := 11) rfl hm) rfl rfl rfl rfl (by omega) (by omega)) rfl rfl (by kernel_rfl) ?_
    refine a_pu 2 rfl rfl rfl rfl (pu_rdMA (L := bs (ksL s)) (j := 0) (s := 32) (fun w' hm => Ow.rd (t := 11) rfl hm) rfl rfl (by omega) (by omega)) rfl rfl (by kernel_rfl) ?_
    rw [bs_cut (ksL_mac s)]
    refine a_pu 3 rfl rfl rfl rfl (pu_move rfl rfl) rfl rfl (by kernel_rfl) ?_
    refine a_pu 4 rfl rfl rfl rfl (pu_atM 1 (s := 32) (L := bs (ksL s)) (fun w' hm => Ow.rd (t := 11) rfl hm) rfl rfl rfl rfl (by omega) (by omega)) rfl rfl (by kernel_rfl) ?_
    refine a_pu 5 rfl rfl rfl rfl (pu_rdMA (L := bs (ksL s)) (j := 32) (s := 32) (fun w' hm => Ow.rd (t := 11) rfl hm) rfl rfl (by omega) (by omega)) rfl rfl (by kernel_rfl) ?_
    rw [bs_cut (ksL_stream s)]
    refine a_pu 6 rfl rfl rfl rfl (pu_move rfl rfl) rfl rfl (by kernel_rfl) ?_
    refine a_pu 7 rfl rfl rfl rfl (pu_atM 2 (s := 32) (L := bs (ksL s)) (fun w' hm => Ow.rd (t := 11) rfl hm) rfl rfl rfl rfl (by omega) (by omega)) rfl rfl (by kernel_rfl) ?_
    refine a_pu 8 rfl rfl rfl rfl (pu_rdMA (L := bs (ksL s)) (j := 64) (s := 32) (fun w' hm => Ow.rd (t := 11) rfl hm) rfl rfl (by omega) (by omega)) rfl rfl (by kernel_rfl) ?_
    rw [bs_cut (ksL_pay s)]
    refine a_pu 9 rfl rfl rfl rfl (pu_move rfl rfl) rfl rfl (by kernel_rfl) ?_
    refine a_pu 10 rfl rfl rfl rfl (pu_atM 3 (s := 32) (L := bs (ksL s)) (fun w' hm => Ow.rd (t := 11) rfl hm) rfl rfl rfl rfl (by omega) (by omega)) rfl rfl (by kernel_rfl) ?_
    refine a_pu 11 rfl rfl rfl rfl (pu_rdMA (L := bs (ksL s)) (j := 96) (s := 32) (fun w' hm => Ow.rd (t := 11) rfl hm) rfl rfl (by omega) (by omega)) rfl rfl (by kernel_rfl) ?_
    rw [bs_cut (ksL_blind s)]
    refine a_pu 12 rfl rfl rfl rfl (pu_buildS (cs := bs (ksL s)) rfl rfl (fill_keys rfl)) rfl rfl (by kernel_rfl) ?_
    refine a_tail [13, 14] (by kernel_rfl) rfl rfl (by kernel_rfl) ?_
    refine g_storeL 2 (s := 128) (C := bs (ksL s)) rfl rfl rfl rfl rfl rfl hkl rfl (oneCell_bs _) ?_
    refine g_pu rfl rfl rfl (pu_assign rfl rfl) ?_
    refine g_nil ?_
    exact g_retLT 2 (L := bs (ksL s)) rfl hkl rfl rfl rfl (fun w' hm => ⟨(), trivial, rfl, hm.grows [] trivial rfl⟩)
  · have hV : ofV s = zeroL 128 := if_neg (by rw [hsl]; exact h32)
    have hE : ofE n = 2 := if_neg h32
    rw [hV, hE]
    (repeat refine g_seq ?_)
    refine g_region ?_
    refine g_pu rfl rfl rfl (pu_move rfl rfl) ?_
    first | refine g_pu rfl rfl rfl (pu_len rfl rfl) ?_ | refine g_pu rfl rfl rfl (pu_lenS rfl rfl) ?_
    first | refine g_pu rfl rfl rfl (pu_neq_t rfl rfl rfl (by omega)) ?_ | refine g_pu rfl rfl rfl (pu_neq_f rfl rfl rfl (by omega)) ?_ | refine g_pu rfl rfl rfl (pu_neq rfl rfl rfl) ?_
    refine g_nil ?_
    (repeat refine g_seq ?_)
    refine g_cond_t rfl ?_
    (repeat refine g_seq ?_)
    refine g_region ?_
    refine g_pu rfl rfl rfl (pu_buildS (cs := bs (zeroL 128)) rfl rfl rfl) ?_
    refine g_storeL 2 (s := 128) (C := bs (zeroL 128)) rfl rfl rfl rfl rfl rfl rfl rfl (oneCell_bs _) ?_
    refine g_pu rfl rfl rfl (pu_assign rfl rfl) ?_
    refine g_nil ?_
    exact g_retLT 2 (L := bs (zeroL 128)) rfl rfl rfl rfl rfl (fun w' hm => ⟨(), trivial, rfl, hm.grows [] trivial rfl⟩)
theorem step12_b (w : World) {a s : List (BitVec 8)} (ha : a.length = 32) (hs : s.length = 32) : Spec Try.prog 114 #[.agg (bs a).toArray, .agg (bs s).toArray] w (σ := Unit) (fun _ => True) (fun _ => .agg (bs (stL' a s)).toArray) Nob (fun _ => []) := by
  refine enter Try.func114 rfl rfl (Mem.start w) ?_
  have hol : (bs (ofV s)).length = 128 := by rw [bs_length, ofV_length]
  have hal : (bs a).length = 32 := by rw [bs_length, ha]
  have hsl : (bs s).length = 32 := by rw [bs_length, hs]
  have htl : (bs (stL' a s)).length = 192 := by rw [bs_length, stL'_length ha hs]
  (repeat refine g_seq ?_)
  refine g_region ?_
  refine g_lo [2] rfl rfl rfl rfl (lo_box rfl rfl) (fun b2 hb2 => ?_)
  refine g_lo [3] rfl rfl rfl rfl (lo_box rfl rfl) (fun b3 hb3 => ?_)
  refine g_lo [4] rfl rfl rfl rfl (lo_alloc rfl) (fun b4 hb4 => ?_)
  refine g_nil ?_
  (repeat refine g_seq ?_)
  refine g_region ?_
  refine g_pu rfl rfl rfl (pu_sliceA rfl rfl) ?_
  refine g_call [] rfl rfl rfl rfl rfl rfl (fun w' hm => Of12_b w' 32 (s := s) (By.full 3 rfl hm hs (by omega))) (fun _ _ => ?_)
  refine g_pu rfl rfl rfl (pu_move rfl rfl) ?_
  refine g_pu rfl rfl rfl (pu_extract rfl rfl rfl) ?_
  refine g_pu rfl rfl rfl (pu_extract rfl rfl rfl) ?_
  refine g_lo [5] rfl rfl rfl rfl (lo_alloc rfl) (fun b5 hb5 => ?_)
  refine g_storeL 5 (s := 128) (C := bs (ofV s)) rfl rfl rfl rfl rfl rfl hol rfl (oneCell_bs _) ?_
  refine g_pu rfl rfl rfl (pu_assign rfl rfl) ?_
  refine g_nil ?_
  (repeat refine g_seq ?_)
  refine g_region ?_
  refine g_pu rfl rfl rfl (pu_loadW 5 (L := bs (ofV s)) rfl rfl rfl hol) ?_
  refine g_pu rfl rfl rfl (pu_loadW 2 (L := bs a) rfl rfl rfl hal) ?_
  refine g_pu rfl rfl rfl (pu_loadW 3 (L := bs s) rfl rfl rfl hsl) ?_
  refine g_pu rfl rfl rfl (pu_buildS (cs := bs (stL' a s)) rfl rfl (fill_step ha hs rfl)) ?_
  refine g_storeL 4 (s := 192) (C := bs (stL' a s)) rfl rfl rfl rfl rfl rfl htl rfl (oneCell_bs _) ?_
  refine g_nil ?_
  exact g_retL 4 (L := bs (stL' a s)) rfl htl rfl rfl (fun w' hm => ⟨(), trivial, rfl, hm.grows [] trivial rfl⟩)
theorem Next12_b (w : World) {a s : List (BitVec 8)} (ha : a.length = 32) (hs : s.length = 32) : Spec Try.prog 71 #[.agg (bs (stL' a s)).toArray] w (σ := Unit) (fun _ => True) (fun _ => .tuple #[.agg (bs (xmV (kBlind s) a)).toArray, .int .i64 (xmE (kBlind s) a)]) Nob (fun _ => []) := by
  refine enter Try.func71 rfl rfl (Mem.start w) ?_
  have hbl : (bs (xmV (kBlind s) a)).length = 32 := by rw [bs_length, xmV_length]
  (repeat refine g_seq ?_)
  refine g_region ?_
  refine g_lo [1] rfl rfl rfl rfl (lo_box rfl rfl) (fun b1 hb1 => ?_)
  refine g_lo [2] rfl rfl rfl rfl (lo_alloc rfl) (fun b2 hb2 => ?_)
  refine g_pu rfl rfl rfl (pu_assign rfl rfl) ?_
  refine g_nil ?_
  (repeat refine g_seq ?_)
  refine g_any (8, []) ?_
  refine a_pu 0 rfl rfl rfl rfl (pu_fieldAddr (by decide) rfl rfl) rfl rfl (by kernel_rfl) ?_
  refine a_pu 1 rfl rfl rfl rfl (pu_fieldAddr (by decide) rfl rfl) rfl rfl (by kernel_rfl) ?_
  refine a_pu 2 rfl rfl rfl rfl (pu_sliceA rfl rfl) rfl rfl (by kernel_rfl) ?_
  refine a_pu 3 rfl rfl rfl rfl (pu_fieldAddr (by decide) rfl rfl) rfl rfl (by kernel_rfl) ?_
  refine a_pu 4 rfl rfl rfl rfl (pu_sliceA rfl rfl) rfl rfl (by kernel_rfl) ?_
  refine a_do 5 9 [] (does_call rfl rfl rfl rfl rfl (fun w' hm => Mult_b w' 32 32 (k := kBlind s) (u := a) (By.sub 1 rfl hm (stL'_blind hs) (kBlind_length s) (by omega)) (By.sub 1 rfl hm (stL'_alpha ha) ha (by omega)))) rfl rfl (by kernel_rfl) rfl rfl (by kernel_rfl) (by kernel_rfl) (by kernel_rfl) rfl (fun p hp => by cases hp) ?_; rintro v_ cs_ ⟨_, _, rfl, rfl⟩
  refine a_pu 6 rfl rfl rfl rfl (pu_extract rfl rfl rfl) rfl rfl (by kernel_rfl) ?_
  refine a_pu 7 rfl rfl rfl rfl (pu_extract rfl rfl rfl) rfl rfl (by kernel_rfl) ?_
  refine a_tail [8, 9] (by kernel_rfl) rfl rfl (by kernel_rfl) ?_
  refine g_storeL 2 (s := 32) (C := bs (xmV (kBlind s) a)) rfl rfl rfl rfl rfl rfl hbl rfl (oneCell_bs _) ?_
  refine g_pu rfl rfl rfl (pu_assign rfl rfl) ?_
  refine g_nil ?_
  exact g_retLT 2 (L := bs (xmV (kBlind s) a)) rfl hbl rfl rfl rfl (fun w' hm => ⟨(), trivial, rfl, hm.grows [] trivial rfl⟩)
def plV (k a : List (BitVec 8)) : List (BitVec 8) := if xmE k a = 0 then stL' a (xmV k a) else zeroL 192
theorem xmE_u {k u : List (BitVec 8)} (h : xmE k u = 0) : u.length = 32 := by
  unfold xmE at h
  split at h
  · rename_i h2; exact h2.2
  · cases h
theorem Peel_b (w : World) {p q : Option Addr} {n m : Nat} (c d : Nat) {k a : List (BitVec 8)} (hk : By w p n k) (ha : By w q m a) : Spec Try.prog 70 #[.slice p n c, .slice q m d] w (σ := Unit) (fun _ => True) (fun _ => .tuple #[.agg (bs (plV k a)).toArray, .int .i64 (xmE k a)]) Nob (fun _ => []) := by
  refine enter Try.func70 rfl rfl (Mem.start w) ?_
  have hal := ha.len
  have hvl := xmV_length k a
  have hbl : (bs (xmV k a)).length = 32 := by rw [bs_length, hvl]
  (repeat refine g_seq ?_)
  refine g_region ?_
  refine g_lo [4] rfl rfl rfl rfl (lo_alloc rfl) (fun b4 hb4 => ?_)
  refine g_pu rfl rfl rfl (pu_assign rfl rfl) ?_
  refine g_nil ?_
  (repeat refine g_seq ?_)
  refine g_region ?_
  refine g_pu rfl rfl rfl (pu_move rfl rfl) ?_
  refine g_pu rfl rfl rfl (pu_move rfl rfl) ?_
  refine g_call [] rfl rfl rfl rfl rfl rfl (fun w' hm => Mult_b w' c d (hk.m hm) (ha.m hm)) (fun _ _ => ?_)
  refine g_pu rfl rfl rfl (pu_move rfl rfl) ?_
  refine g_pu rfl rfl rfl (pu_extract rfl rfl rfl) ?_
  refine g_pu rfl rfl rfl (pu_extract rfl rfl rfl) ?_
  refine g_lo [6] rfl rfl rfl rfl (lo_alloc rfl) (fun b6 hb6 => ?_)
  refine g_storeL 6 (s := 32) (C := bs (xmV k a)) rfl rfl rfl rfl rfl rfl hbl rfl (oneCell_bs _) ?_
  refine g_pu rfl rfl rfl (pu_assign rfl rfl) ?_
  refine g_nil ?_
  by_cases hE : xmE k a = 0
  · have hV : plV k a = stL' a (xmV k a) := if_pos hE
    have h32 := xmE_u hE
    have hm32 : m = 32 := by omega
    have htl : (bs (stL' a (xmV k a))).length = 192 := by rw [bs_length, stL'_length h32 hvl]
    subst hm32
    rw [hV, hE]
    (repeat refine g_seq ?_)
    refine g_region ?_
    refine g_pu rfl rfl rfl (pu_move rfl rfl) ?_
    first | refine g_pu rfl rfl rfl (pu_neq_t rfl rfl rfl (by omega)) ?_ | refine g_pu rfl rfl rfl (pu_neq_f rfl rfl rfl (by omega)) ?_ | refine g_pu rfl rfl rfl (pu_neq rfl rfl rfl) ?_
    refine g_nil ?_
    (repeat refine g_seq ?_)
    refine g_cond_f rfl (g_skip ?_)
    (repeat refine g_seq ?_)
    refine g_any (4, []) ?_
    refine a_pu 0 rfl rfl rfl rfl (pu_move rfl rfl) rfl rfl (by kernel_rfl) ?_
    refine a_pu 1 rfl rfl rfl rfl (pu_s2a (fun w' hm => ha.m hm) rfl rfl (by omega) (by omega)) rfl rfl (by kernel_rfl) ?_
    refine a_pu 2 rfl rfl rfl rfl (pu_rdMA (fun w' hm => (ha.m hm).rd) rfl rfl (by omega) (by rw [bs_length, h32]; omega)) rfl rfl (by kernel_rfl) ?_
    rw [bs_full h32]
    refine a_pu 3 rfl rfl rfl rfl (pu_loadW 6 (L := bs (xmV k a)) rfl rfl rfl hbl) rfl rfl (by kernel_rfl) ?_
    refine a_tail [4, 5, 6] (by kernel_rfl) rfl rfl (by kernel_rfl) ?_
    refine g_call [] rfl rfl rfl rfl rfl rfl (fun w' hm => step12_b w' h32 hvl) (fun _ _ => ?_)
    refine g_storeL 4 (s := 192) (C := bs (stL' a (xmV k a))) rfl rfl rfl rfl rfl rfl htl rfl (oneCell_bs _) ?_
    refine g_pu rfl rfl rfl (pu_assign rfl rfl) ?_
    refine g_nil ?_
    exact g_retLT 4 (L := bs (stL' a (xmV k a))) rfl htl rfl rfl rfl (fun w' hm => ⟨(), trivial, rfl, hm.grows [] trivial rfl⟩)
  · have hV : plV k a = zeroL 192 := if_neg hE
    rw [hV]
    (repeat refine g_seq ?_)
    refine g_region ?_
    refine g_pu rfl rfl rfl (pu_move rfl rfl) ?_
    refine g_pu rfl rfl rfl (pu_neq_t rfl rfl rfl hE) ?_
    refine g_nil ?_
    (repeat refine g_seq ?_)
    refine g_cond_t rfl ?_
    (repeat refine g_seq ?_)
    refine g_region ?_
    refine g_pu rfl rfl rfl (pu_buildS (cs := bs (zeroL 192)) rfl rfl (by rw [bs_zeroL]; rfl)) ?_
    refine g_pu rfl rfl rfl (pu_move rfl rfl) ?_
    refine g_storeL 4 (s := 192) (C := bs (zeroL 192)) rfl rfl rfl rfl rfl rfl (by rw [bs_length, zeroL_length]) (by rw [List.length_replicate]) (oneCell_bs _) ?_
    refine g_pu rfl rfl rfl (pu_assign rfl rfl) ?_
    refine g_nil ?_
    exact g_retLT 4 (L := bs (zeroL 192)) rfl (by rw [bs_length, zeroL_length]) rfl rfl rfl (fun w' hm => ⟨(), trivial, rfl, hm.grows [] trivial rfl⟩)

end Go.Sx

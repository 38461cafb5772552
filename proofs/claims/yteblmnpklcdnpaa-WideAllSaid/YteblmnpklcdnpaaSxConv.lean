/-
  Conversions between strings and slices of bytes, for the judgement of Sx. No condition: they speak of any program.
-/
import Derived.Test.YteblmnpklcdnpaaSxArr
import Derived.Lib.SlBytesRow
import Derived.Lib.ConvBytes
set_option linter.unusedVariables false
set_option linter.unusedSimpArgs false
namespace Go.Sx
open Go

section
variable {P : Program} {fn : Func} {R : Ending → World → Prop} {N : Nat} {w0 : World} {D : Blocks} {e : List (Nat × Value)} {M : List (Nat × Ck)} {k : List It} {o : Oper} {all : Array Oper} {rest : List Oper}

/-- A constant's bytes: the row is marked. -/
theorem g_mark (tag : Nat) {t E : TypeId} {x : Operand} {b n c d : Nat} {C : Array Value} {F : TypeId} (hg : wantE all e o = some true) (hd : o.dst = some d) (hN : Nat.blt d N = true) [hu : Und P t (.slice E)] [he : Und P E (.int .u8)] (ho : o.op = .convert t t x) (hx : ev e x = some (.slice (some ⟨b, 0, none⟩) n c))
    (hM : mget M tag = some (.pt b (.cells C F (0, 0))))
    (h : G P fn R N w0 D ((d, .slice (some ⟨b, 0, none⟩) n c) :: e) ((tag, .pt b (.cells C F (C.size, C.size + 1))) :: M) (.ops all rest :: k)) : G P fn R N w0 D e M (.ops all (o :: rest) :: k) := by
  refine g_val (σ := Unit) (pr := fun _ => True) (val := fun _ => .slice (some ⟨b, 0, none⟩) n c) (M' := fun _ => (tag, .pt b (.cells C F (C.size, C.size + 1))) :: M) hg hd hN ?_ (fun _ _ => h)
  intro a w hs hm
  have hb := hm.holds _ _ hM
  simp only [Ck.holds] at hb
  refine ⟨(), w.freeze ⟨b, C.size, none⟩ 1, trivial, ?_, ?_⟩
  · have hsh : w.shape? b = some (F, C.size) := by simp [World.shape?, hb]
    simp [execOp, ho, hs.eval hx, convert, run_und hu.h, run_und he.h, markStringish, hsh]
  · refine hm.turn tag b _ (.cells C F (C.size, C.size + 1)) hM rfl rfl rfl ?_ ?_ (fun j hj => ?_)
    · simp [World.freeze]
    · have hlt := lt_of_some hb
      simp only [World.freeze, Nat.one_ne_zero, if_false, Array.getElem?_modify, if_pos rfl, hb, Option.map_some]
      rfl
    · simp only [World.freeze, Nat.one_ne_zero, if_false, Array.getElem?_modify]
      rw [if_neg (fun e => hj e.symm)]

/-- A string's bytes, as a new row, marked. -/
theorem lo_bytesOf {s t E : TypeId} {x : Operand} {str : ByteArray} [hs' : Und P s .string] [hu : Und P t (.slice E)] [he : Und P E (.int .u8)] (ho : o.op = .convert s t x) (hx : ev e x = some (.string str)) (hlen : str.size ≤ 9223372036854775807) :
    Lo P N w0 D e M o (σ := Nat × Nat) (fun r => w0.heap.size ≤ r.1 ∧ str.size ≤ r.2 ∧ r.2 ≤ 9223372036854775807) (fun r => .slice (some ⟨r.1, 0, none⟩) str.size r.2) (fun r => [.pt r.1 (.cells (bs (bytesOf str) ++ List.replicate (r.2 - str.size) (b8 0#8)).toArray E (r.2, r.2 + 1))]) := fun a w hs hm => by
  have hge := grownCap_ge w str.size 0 E
  have hle := grownCap_le_maxLen w str.size 0 E (by unfold maxLen; omega)
  have hcells : Lib.bytesCells w E str = (bs (bytesOf str) ++ List.replicate (grownCap w str.size 0 E - str.size) (b8 0#8)).toArray := by
    unfold Lib.bytesCells
    apply Array.ext'
    simp only [Array.toList_append, Array.toList_map, Array.toList_replicate, bs, bytesOf, List.map_map]
    rfl
  have hsz : (Lib.bytesCells w E str).size = grownCap w str.size 0 E := by
    unfold Lib.bytesCells
    simp only [Array.size_append, Array.size_map, Array.size_replicate]
    have : str.data.size = str.size := rfl
    omega
  have hnew := Lib.bytesWorld_at_new w E str
  rw [hsz, hcells] at hnew
  refine ⟨(w.heap.size, grownCap w str.size 0 E), Lib.bytesWorld w E str, ⟨hm.size, hge, by unfold maxLen at hle; omega⟩, ?_, ?_⟩
  · simp [execOp, ho, hs.eval hx, Lib.run_convert_string_bytes w s t E str hs'.h hu.h he.h]
  · refine ⟨rfl, rfl, rfl, by rw [Lib.bytesWorld_size]; omega, fun j hj _ => Lib.bytesWorld_at_old w E str j hj, ?_, ?_, ?_, ?_, by simp⟩
    · intro c hc; obtain rfl := List.mem_singleton.1 hc; exact hnew
    · intro c hc; obtain rfl := List.mem_singleton.1 hc; trivial
    · intro c hc j hj; obtain rfl := List.mem_singleton.1 hc; exact .inl (Nat.le_of_eq (Eq.symm hj))
    · intro c hc j hj; obtain rfl := List.mem_singleton.1 hc; have : j = w.heap.size := hj; rw [Lib.bytesWorld_size]; omega

/-- The string that a slice of bytes is. -/
theorem pu_strOf {s t E : TypeId} {x : Operand} {p : Option Addr} {n c : Nat} {l : List (BitVec 8)} (hr : ∀ w, Mem w0 D M w → By w p n l) [hs' : Und P s (.slice E)] [he : Und P E (.int .u8)] [hu : Und P t .string] (ho : o.op = .convert s t x) (hx : ev e x = some (.slice p n c)) : Pu P N w0 D e M o (.string (strOf l)) := fun a w hs hm => by
  have h := hr w hm
  have hsz : (strOf l).size = n := by rw [← h.len]; simp [strOf, ByteArray.size]
  cases p with
  | none =>
    have h0 := h.nil0
    subst h0
    have hl0 : l = [] := List.eq_nil_of_length_eq_zero h.len
    subst hl0
    simp [execOp, ho, hs.eval hx, convert, run_und hs'.h, run_und hu.h, run_und he.h, Conv.bytesToString, strOf]
    rfl
  | some ad =>
    by_cases hn : n = 0
    · subst hn
      have hl0 : l = [] := List.eq_nil_of_length_eq_zero h.len
      subst hl0
      simp [execOp, ho, hs.eval hx, convert, run_und hs'.h, run_und hu.h, run_und he.h, Conv.bytesToString, strOf, loadCells, loadCellsFrom]
      rfl
    · obtain ⟨b, off, he2, hc⟩ := h.rd.place (by rw [bs_length, h.len]; omega)
      cases he2
      have hb : Lib.Bytes w b off (strOf l) := by
        intro i hi
        have hi' : i < l.length := by rw [h.len]; rwa [hsz] at hi
        have h1 := hc i (b8 l[i]) (bs_get (List.getElem?_eq_getElem hi'))
        rw [h1]
        have h2 : (strOf l)[i] = UInt8.ofBitVec l[i] := by
          show (strOf l).data[i] = _
          simp [strOf]
        rw [h2]
        rfl
      have h2 := Lib.run_convert_whole (P := P) w s E t hs'.h he.h hu.h b off (strOf l) hb c
      rw [hsz] at h2
      simp only [execOp, ho, hs.eval hx, Sem.run_bind, h2, Result.andThen_ok, Sem.run_pure]
end
end Go.Sx

import Derived.Test.YteblmnpklcdnpaaWA
import Derived.Test.YteblmnpklcdnpaaXC
import Derived.Test.YteblmnpklcdnpaaYA
set_option linter.unusedVariables false
set_option linter.unusedSimpArgs false
/-
  Sealing and opening of both, the fixed fact, and the look at bytes and error. The lists fit memory.
-/
namespace Go.Sx
open Go Go.Proofs

section
variable {P : Program} {fn : Func} {R : Ending → World → Prop} {N : Nat} {w0 : World} {D : Blocks} {e : List (Nat × Value)} {M : List (Nat × Ck)} {k : List It} {ops : Array Oper} {m : Nat × List Nat} {f : Nat} {L : Array Bool}
/-- A pending make of a slice. -/
def PMk (i d tag n c : Nat) (E : TypeId) (z : Value) (w0 : World) : PU := ⟨i, d, [tag], fun v cs => ∃ b : Nat, w0.heap.size ≤ b ∧ v = .slice (some ⟨b, 0, none⟩) n c ∧ cs = [.pt b (.cells (List.replicate c z).toArray E (0, 0))]⟩
theorem does_PMk {Q : Exit → Act → World → Prop} {i d tag n c by' : Nat} {t E : TypeId} {z : Value} {o : Oper} {x y : Operand} {kx ky : IntKind} [hu : Und P t (.slice E)] [hz : Siz P E 1] [hzz : Zer P E z] [hb : Byt P E by'] (hi : ops[i]? = some o) (hd : o.dst = some d) (hw : wantE ops e o = some true) (ho : o.op = .makeSlice t x y) (hx : ev e x = some (.int kx (n : Int))) (hy : ev e y = some (.int ky (c : Int)))
    (hnc : n ≤ c) (hc : by' * c ≤ 281474976710656) (hc' : c ≤ 9223372036854775807) (h1 : z.cells = #[z]) : Does P ops Q N w0 D e M i d (PMk i d tag n c E z w0).out :=
  does_lo hi hd hw (lo_make ho hx hy hnc hc hc' h1)
theorem a_pendMk {ps : List PU} (i d tag n c : Nat) (E : TypeId) (z : Value) (h : GP P fn R N w0 D e M k ops m (PMk i d tag n c E z w0 :: ps) f L) : GP P fn R N w0 D e M k ops m ps f L := a_pend _ h
end

theorem Seal_b (w : World) {p q : Option Addr} {n m : Nat} (c d : Nat) {key b : List (BitVec 8)} (hk : By w p n key) (hb : By w q m b) :
    Spec Try.prog 13 #[.slice p n c, .slice q m d] w (σ := Ow) (fun _ => True) (fun x => .tuple #[x.sl (rdsV key b zS).length, .int .i64 (rdsE n m zS)]) Nob (fun x => [x.ck 5 1 (bs (rdsV key b zS))]) := by
  refine enter Try.func13 rfl rfl (Mem.start w) ?_
  (repeat refine g_seq ?_)
  refine g_region ?_
  refine g_pu rfl rfl rfl (pu_assign rfl rfl) ?_
  refine g_pu rfl rfl rfl (pu_assign rfl rfl) ?_
  refine g_nil ?_
  (repeat refine g_seq ?_)
  refine g_region ?_
  refine g_pu rfl rfl rfl (pu_move rfl rfl) ?_
  refine g_pu rfl rfl rfl (pu_move rfl rfl) ?_
  refine g_lo [8] rfl rfl rfl rfl (lo_buildSlice rfl rfl (by decide) (by decide) rfl rfl) (fun q8 hb8 => ?_)
  refine g_call [9] rfl rfl rfl rfl rfl rfl (fun w' hm => WRounds_b w' c d 4 (zs := zS) (hk.m hm) (hb.m hm) (hm.rowA 8 (L := zS.map (Value.int .i64)) rfl) rfl (by omega)) (fun x9 _ => ?_)
  refine g_pu rfl rfl rfl (pu_extract rfl rfl rfl) ?_
  refine g_pu rfl rfl rfl (pu_extract rfl rfl rfl) ?_
  refine g_pu rfl rfl rfl (pu_assign rfl rfl) ?_
  refine g_pu rfl rfl rfl (pu_assign rfl rfl) ?_
  refine g_nil ?_
  exact g_ret2 rfl rfl rfl (fun w' hm => ⟨x9, trivial, rfl, hm.grows [9] ⟨rfl, trivial⟩ rfl⟩)
theorem Open_b (w : World) {p q : Option Addr} {n m : Nat} (c d : Nat) {key b : List (BitVec 8)} (hk : By w p n key) (hb : By w q m b) :
    Spec Try.prog 15 #[.slice p n c, .slice q m d] w (σ := Ow) (fun _ => True) (fun x => .tuple #[x.sl (rdsV key b zO).length, .int .i64 (rdsE n m zO)]) Nob (fun x => [x.ck 5 1 (bs (rdsV key b zO))]) := by
  refine enter Try.func15 rfl rfl (Mem.start w) ?_
  (repeat refine g_seq ?_)
  refine g_region ?_
  refine g_pu rfl rfl rfl (pu_assign rfl rfl) ?_
  refine g_pu rfl rfl rfl (pu_assign rfl rfl) ?_
  refine g_nil ?_
  (repeat refine g_seq ?_)
  refine g_region ?_
  refine g_pu rfl rfl rfl (pu_move rfl rfl) ?_
  refine g_pu rfl rfl rfl (pu_move rfl rfl) ?_
  refine g_lo [8] rfl rfl rfl rfl (lo_buildSlice rfl rfl (by decide) (by decide) rfl rfl) (fun q8 hb8 => ?_)
  refine g_call [9] rfl rfl rfl rfl rfl rfl (fun w' hm => WRounds_b w' c d 4 (zs := zO) (hk.m hm) (hb.m hm) (hm.rowA 8 (L := zO.map (Value.int .i64)) rfl) rfl (by omega)) (fun x9 _ => ?_)
  refine g_pu rfl rfl rfl (pu_extract rfl rfl rfl) ?_
  refine g_pu rfl rfl rfl (pu_extract rfl rfl rfl) ?_
  refine g_pu rfl rfl rfl (pu_assign rfl rfl) ?_
  refine g_pu rfl rfl rfl (pu_assign rfl rfl) ?_
  refine g_nil ?_
  exact g_ret2 rfl rfl rfl (fun w' hm => ⟨x9, trivial, rfl, hm.grows [9] ⟨rfl, trivial⟩ rfl⟩)
theorem RSeal_b (w : World) {p q : Option Addr} {n m : Nat} (c d : Nat) {key b : List (BitVec 8)} (hk : By w p n key) (hb : By w q m b) (hmd : m ≤ d) :
    Spec Try.prog 14 #[.slice p n c, .slice q m d] w (σ := Ow) (fun _ => True) (fun x => .tuple #[x.sl (rdsV key b zS).length, .int .i64 (rdsE n m zS)]) Nob (fun x => [x.ck 5 1 (bs (rdsV key b zS))]) := by
  refine enter Try.func14 rfl rfl (Mem.start w) ?_
  (repeat refine g_seq ?_)
  refine g_region ?_
  refine g_pu rfl rfl rfl (pu_assign rfl rfl) ?_
  refine g_pu rfl rfl rfl (pu_assign rfl rfl) ?_
  refine g_nil ?_
  (repeat refine g_seq ?_)
  refine g_region ?_
  refine g_pu rfl rfl rfl (pu_move rfl rfl) ?_
  refine g_pu rfl rfl rfl (pu_move rfl rfl) ?_
  refine g_lo [8] rfl rfl rfl rfl (lo_buildSlice rfl rfl (by decide) (by decide) rfl rfl) (fun q8 hb8 => ?_)
  refine g_call [9] rfl rfl rfl rfl rfl rfl (fun w' hm => RRounds_b w' c d 4 (zs := zS) (hk.m hm) (hb.m hm) (hm.rowA 8 (L := zS.map (Value.int .i64)) rfl) rfl (by omega) hmd) (fun x9 _ => ?_)
  refine g_pu rfl rfl rfl (pu_extract rfl rfl rfl) ?_
  refine g_pu rfl rfl rfl (pu_extract rfl rfl rfl) ?_
  refine g_pu rfl rfl rfl (pu_assign rfl rfl) ?_
  refine g_pu rfl rfl rfl (pu_assign rfl rfl) ?_
  refine g_nil ?_
  exact g_ret2 rfl rfl rfl (fun w' hm => ⟨x9, trivial, rfl, hm.grows [9] ⟨rfl, trivial⟩ rfl⟩)
theorem ROpen_b (w : World) {p q : Option Addr} {n m : Nat} (c d : Nat) {key b : List (BitVec 8)} (hk : By w p n key) (hb : By w q m b) (hmd : m ≤ d) :
    Spec Try.prog 16 #[.slice p n c, .slice q m d] w (σ := Ow) (fun _ => True) (fun x => .tuple #[x.sl (rdsV key b zO).length, .int .i64 (rdsE n m zO)]) Nob (fun x => [x.ck 5 1 (bs (rdsV key b zO))]) := by
  refine enter Try.func16 rfl rfl (Mem.start w) ?_
  (repeat refine g_seq ?_)
  refine g_region ?_
  refine g_pu rfl rfl rfl (pu_assign rfl rfl) ?_
  refine g_pu rfl rfl rfl (pu_assign rfl rfl) ?_
  refine g_nil ?_
  (repeat refine g_seq ?_)
  refine g_region ?_
  refine g_pu rfl rfl rfl (pu_move rfl rfl) ?_
  refine g_pu rfl rfl rfl (pu_move rfl rfl) ?_
  refine g_lo [8] rfl rfl rfl rfl (lo_buildSlice rfl rfl (by decide) (by decide) rfl rfl) (fun q8 hb8 => ?_)
  refine g_call [9] rfl rfl rfl rfl rfl rfl (fun w' hm => RRounds_b w' c d 4 (zs := zO) (hk.m hm) (hb.m hm) (hm.rowA 8 (L := zO.map (Value.int .i64)) rfl) rfl (by omega) hmd) (fun x9 _ => ?_)
  refine g_pu rfl rfl rfl (pu_extract rfl rfl rfl) ?_
  refine g_pu rfl rfl rfl (pu_extract rfl rfl rfl) ?_
  refine g_pu rfl rfl rfl (pu_assign rfl rfl) ?_
  refine g_pu rfl rfl rfl (pu_assign rfl rfl) ?_
  refine g_nil ?_
  exact g_ret2 rfl rfl rfl (fun w' hm => ⟨x9, trivial, rfl, hm.grows [9] ⟨rfl, trivial⟩ rfl⟩)
theorem told07_t (w : World) {p q : Option Addr} {n m : Nat} (c d : Nat) (z : Int) {a : List (BitVec 8)} (ha : By w p n a) (hb : By w q m a) :
    Spec Try.prog 11 #[.slice p n c, .int .i64 z, .slice q m d, .int .i64 z] w (σ := Unit) (fun _ => True) (fun _ => .bool true) Nob (fun _ => []) := by
  refine enter Try.func11 rfl rfl (Mem.start w) ?_
  (repeat refine g_seq ?_)
  refine g_region ?_
  refine g_pu rfl rfl rfl (pu_assign rfl rfl) ?_
  refine g_nil ?_
  (repeat refine g_seq ?_)
  refine g_region ?_
  refine g_pu rfl rfl rfl (pu_move rfl rfl) ?_
  refine g_pu rfl rfl rfl (pu_move rfl rfl) ?_
  refine g_call [] rfl rfl rfl rfl rfl rfl (fun w' hm => Equal_b w' c d (ha.m hm) (hb.m hm)) (fun _ _ => ?_)
  rw [decide_eq_true (rfl : a = a)]
  refine g_pu rfl rfl rfl (pu_move rfl rfl) ?_
  first | refine g_pass rfl rfl rfl ?_ | refine g_pu rfl rfl rfl (pu_move rfl rfl) ?_
  first | refine g_pass rfl rfl rfl ?_ | refine g_pu rfl rfl rfl (pu_move rfl rfl) ?_
  refine g_pu rfl rfl rfl (pu_eql_t rfl rfl rfl rfl) ?_
  first | refine g_pu rfl rfl rfl (pu_pick_t rfl rfl rfl) ?_ | refine g_pu rfl rfl rfl (pu_pick_f rfl rfl rfl) ?_
  refine g_pu rfl rfl rfl (pu_assign rfl rfl) ?_
  refine g_nil ?_
  exact g_ret1 rfl rfl (fun w' hm => ⟨(), trivial, rfl, hm.grows [] trivial rfl⟩)
theorem rds_len {key b : List (BitVec 8)} {zs : List Int} (h1 : okZ zs = true) (h2 : fitsB key.length b.length = true) : (rdsV key b zs).length = b.length := by
  rw [(rds_ok h1 h2).2]
  exact rdsL_length key zs ((fitsB_iff _ _).1 h2).2.1
/-- Sealed and opened again, and the other way round. -/
theorem seal_open {key b : List (BitVec 8)} (h2 : fitsB key.length b.length = true) : rdsE key.length (rdsV key b zS).length zO = 0 ∧ rdsV key (rdsV key b zS) zO = b := by
  have hl := rds_len (zs := zS) rfl h2
  have h3 : fitsB key.length (rdsV key b zS).length = true := by rw [hl]; exact h2
  obtain ⟨e1, e2⟩ := rds_ok (key := key) (b := rdsV key b zS) (zs := zO) rfl h3
  refine ⟨e1, ?_⟩
  rw [e2, (rds_ok (zs := zS) rfl h2).2]
  exact rdsL_back key zS ((fitsB_iff _ _).1 h2).2.1
theorem open_seal {key b : List (BitVec 8)} (h2 : fitsB key.length b.length = true) : rdsE key.length (rdsV key b zO).length zS = 0 ∧ rdsV key (rdsV key b zO) zS = b := by
  have hl := rds_len (zs := zO) rfl h2
  have h3 : fitsB key.length (rdsV key b zO).length = true := by rw [hl]; exact h2
  obtain ⟨e1, e2⟩ := rds_ok (key := key) (b := rdsV key b zO) (zs := zS) rfl h3
  refine ⟨e1, ?_⟩
  rw [e2, (rds_ok (zs := zO) rfl h2).2]
  exact rdsL_back key zO ((fitsB_iff _ _).1 h2).2.1

theorem awake07_b (w : World) : Spec Try.prog 7 #[] w (σ := Unit) (fun _ => True) (fun _ => .bool true) Nob (fun _ => []) := by
  refine enter Try.func7 rfl rfl (Mem.start w) ?_
  have hf : fitsB (wz 32).length (wz 40).length = true := rfl
  obtain ⟨hE, hV⟩ := rds_ok (key := wz 32) (b := wz 40) (zs := zS) rfl hf
  have hl := rds_len (zs := zS) rfl hf
  obtain ⟨hE2, hV2⟩ := seal_open hf
  have hne : ¬ rdsV (wz 32) (wz 40) zS = wz 40 := by
    rw [hV]
    intro h
    have := aw_seal
    rw [h, beq_self_eq_true] at this
    cases this
  have h40 : (wz 40).length = 40 := rfl
  have h32 : (wz 32).length = 32 := rfl
  rw [h40] at hl
  rw [h32, h40] at hE
  rw [h32, hl] at hE2
  (repeat refine g_seq ?_)
  refine g_region ?_
  refine g_pu rfl rfl rfl (pu_assign rfl rfl) ?_
  refine g_nil ?_
  (repeat refine g_seq ?_)
  refine g_any (4, []) ?_
  refine a_pendMk 1 8 8 40 40 5 (b8 0#8) ?_
  refine a_do 0 7 [7] (does_lo rfl rfl rfl (lo_make (n := 32) (c := 32) rfl rfl rfl (by omega) (by omega) (by omega) rfl)) rfl rfl (by kernel_rfl) rfl rfl (by kernel_rfl) (by kernel_rfl) (by kernel_rfl) rfl (fun p hp => by simp only [List.mem_cons, List.not_mem_nil, or_false] at hp; subst hp; exact does_PMk rfl rfl rfl rfl rfl rfl (by omega) (by omega) (by omega) rfl) ?_; rintro v_ cs_ ⟨b7, hb7, rfl, rfl⟩
  refine a_pu 2 rfl rfl rfl rfl (pu_assign rfl rfl) rfl rfl (by kernel_rfl) ?_
  refine a_force _ (by kernel_rfl) rfl rfl rfl (by kernel_rfl) (by kernel_rfl) (by kernel_rfl) rfl (fun p hp => by simp only [List.mem_cons, List.not_mem_nil, or_false] at hp; subst hp; exact does_PMk rfl rfl rfl rfl rfl rfl (by omega) (by omega) (by omega) rfl) ?_; rintro v_ cs_ ⟨q8, hb8, rfl, rfl⟩
  refine a_pu 3 rfl rfl rfl rfl (pu_assign rfl rfl) rfl rfl (by kernel_rfl) ?_
  refine a_done (by kernel_rfl) ?_
  (repeat refine g_seq ?_)
  refine g_region ?_
  refine g_pu rfl rfl rfl (pu_move rfl rfl) ?_
  refine g_pu rfl rfl rfl (pu_move rfl rfl) ?_
  refine g_call [12] rfl rfl rfl rfl rfl rfl (fun w' hm => Seal_b w' 32 40 (key := wz 32) (b := wz 40) (By.full 7 rfl hm rfl (by omega)) (By.full 8 rfl hm rfl (by omega))) (fun x12 _ => ?_)
  rw [hE, hl]
  refine g_pu rfl rfl rfl (pu_move rfl rfl) ?_
  refine g_pu rfl rfl rfl (pu_extract rfl rfl rfl) ?_
  refine g_pu rfl rfl rfl (pu_extract rfl rfl rfl) ?_
  refine g_pu rfl rfl rfl (pu_assign rfl rfl) ?_
  refine g_pu rfl rfl rfl (pu_assign rfl rfl) ?_
  refine g_nil ?_
  (repeat refine g_seq ?_)
  refine g_region ?_
  refine g_pu rfl rfl rfl (pu_move rfl rfl) ?_
  refine g_pu rfl rfl rfl (pu_move rfl rfl) ?_
  refine g_call [18] rfl rfl rfl rfl rfl rfl (fun w' hm => Open_b w' 32 x12.c (key := wz 32) (b := rdsV (wz 32) (wz 40) zS) (By.full 7 rfl hm rfl (by omega)) (By.ow 12 rfl hm hl (by omega))) (fun x18 _ => ?_)
  rw [hE2, hV2, h40]
  refine g_pu rfl rfl rfl (pu_move rfl rfl) ?_
  refine g_pu rfl rfl rfl (pu_extract rfl rfl rfl) ?_
  refine g_pu rfl rfl rfl (pu_extract rfl rfl rfl) ?_
  refine g_pu rfl rfl rfl (pu_assign rfl rfl) ?_
  refine g_pu rfl rfl rfl (pu_assign rfl rfl) ?_
  refine g_nil ?_
  generalize rdsV (wz 32) (wz 40) zS = S at hl hne
  (repeat refine g_seq ?_)
  refine g_region ?_
  refine g_pu rfl rfl rfl (pu_move rfl rfl) ?_
  first | refine g_pu rfl rfl rfl (pu_eql_t rfl rfl rfl (by omega)) ?_ | refine g_pu rfl rfl rfl (pu_eql_f rfl rfl rfl (by omega)) ?_ | refine g_pu rfl rfl rfl (pu_eql rfl rfl rfl) ?_
  refine g_pu rfl rfl rfl (pu_move rfl rfl) ?_
  first | refine g_pass rfl rfl rfl ?_ | refine g_pu rfl rfl rfl (pu_move rfl rfl) ?_
  first | refine g_pass rfl rfl rfl ?_ | refine g_pu rfl rfl rfl (pu_eql_t rfl rfl rfl (by omega)) ?_ | refine g_pu rfl rfl rfl (pu_eql_f rfl rfl rfl (by omega)) ?_ | refine g_pu rfl rfl rfl (pu_eql rfl rfl rfl) ?_
  first | refine g_pu rfl rfl rfl (pu_pick_t rfl rfl rfl) ?_ | refine g_pu rfl rfl rfl (pu_pick_f rfl rfl rfl) ?_
  refine g_pu rfl rfl rfl (pu_move rfl rfl) ?_
  first | refine g_pass rfl rfl rfl ?_ | refine g_pu rfl rfl rfl (pu_move rfl rfl) ?_
  first | refine g_pass rfl rfl rfl ?_ | refine g_pu rfl rfl rfl (pu_len rfl rfl) ?_ | refine g_pu rfl rfl rfl (pu_lenS rfl rfl) ?_
  first | refine g_pass rfl rfl rfl ?_ | refine g_pu rfl rfl rfl (pu_eql_t rfl rfl rfl (by omega)) ?_ | refine g_pu rfl rfl rfl (pu_eql_f rfl rfl rfl (by omega)) ?_ | refine g_pu rfl rfl rfl (pu_eql rfl rfl rfl) ?_
  first | refine g_pu rfl rfl rfl (pu_pick_t rfl rfl rfl) ?_ | refine g_pu rfl rfl rfl (pu_pick_f rfl rfl rfl) ?_
  refine g_pu rfl rfl rfl (pu_move rfl rfl) ?_
  first | refine g_pass rfl rfl rfl ?_ | refine g_pu rfl rfl rfl (pu_move rfl rfl) ?_
  first | refine g_pass rfl rfl rfl ?_ | refine g_pu rfl rfl rfl (pu_move rfl rfl) ?_
  refine g_call [] rfl rfl rfl rfl rfl rfl (fun w' hm => Equal_b w' x18.c 40 (a := wz 40) (b := wz 40) (By.ow 18 rfl hm h40 (by omega)) (By.full 8 rfl hm rfl (by omega))) (fun _ _ => ?_)
  rw [decide_eq_true (rfl : wz 40 = wz 40)]
  first | refine g_pu rfl rfl rfl (pu_pick_t rfl rfl rfl) ?_ | refine g_pu rfl rfl rfl (pu_pick_f rfl rfl rfl) ?_
  refine g_pu rfl rfl rfl (pu_move rfl rfl) ?_
  first | refine g_pass rfl rfl rfl ?_ | refine g_pu rfl rfl rfl (pu_move rfl rfl) ?_
  first | refine g_pass rfl rfl rfl ?_ | refine g_pu rfl rfl rfl (pu_move rfl rfl) ?_
  refine g_call [] rfl rfl rfl rfl rfl rfl (fun w' hm => Equal_b w' x12.c 40 (a := S) (b := wz 40) (By.ow 12 rfl hm hl (by omega)) (By.full 8 rfl hm rfl (by omega))) (fun _ _ => ?_)
  rw [decide_eq_false hne]
  first | refine g_pass rfl rfl rfl ?_ | refine g_pu rfl rfl rfl (pu_not rfl rfl) ?_
  first | refine g_pu rfl rfl rfl (pu_pick_t rfl rfl rfl) ?_ | refine g_pu rfl rfl rfl (pu_pick_f rfl rfl rfl) ?_
  refine g_pu rfl rfl rfl (pu_assign rfl rfl) ?_
  refine g_nil ?_
  exact g_ret1 rfl rfl (fun w' hm => ⟨(), trivial, rfl, hm.grows [] trivial rfl⟩)
end Go.Sx

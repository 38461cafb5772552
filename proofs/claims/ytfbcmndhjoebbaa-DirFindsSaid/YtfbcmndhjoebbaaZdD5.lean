import Derived.Test.YtfbcmndhjoebbaaZdD4
set_option linter.unusedVariables false
set_option linter.unusedSimpArgs false
/-
  The fixed fact of the directory's theorems. No condition.
-/
namespace Go.Sx
open Go Go.Proofs

def keyN (x : Hop) : ByteArray × BitVec 64 := (x.name, x.id)
def okK (p : ByteArray × BitVec 64) : Bool := nameOk (bytesOf p.1) && !decide (p.2 = 0#64)
theorem chkN_congr {a b : List Hop} (h : a.map keyN = b.map keyN) : chkN a = chkN b := by
  have hl : a.length = b.length := by
    have := congrArg List.length h
    rwa [List.length_map, List.length_map] at this
  have hall : ∀ l : List Hop, l.all okN = (l.map keyN).all okK := fun l => by rw [List.all_map]; rfl
  have hn : ∀ l : List Hop, l.map Hop.name = (l.map keyN).map Prod.fst := fun l => by rw [List.map_map]; rfl
  have hi : ∀ l : List Hop, l.map Hop.id = (l.map keyN).map Prod.snd := fun l => by rw [List.map_map]; rfl
  have ho : OnceN a ↔ OnceN b := by rw [once_iff, once_iff, hn, hi, hn b, hi b, h]
  unfold chkN
  rw [hl, hall, hall b, h]
  by_cases h2 : OnceN b
  · rw [if_pos h2, if_pos (ho.2 h2)]
  · rw [if_neg h2, if_neg (fun h3 => h2 (ho.1 h3))]
theorem chkN_fin (seed : List (BitVec 8)) (ss : List ByteArray) : chkN (finN seed ss) = chkN (initN ss) := chkN_congr (by
  have h1 : (finN seed ss).map keyN = ss.zipIdx.map fun p => (p.1, idN p.2) := by
    unfold finN
    rw [List.map_map]
    exact List.map_congr_left fun p _ => (rfl : (p.1, idN p.2) = (p.1, idN p.2))
  have h2 : (initN ss).map keyN = ss.zipIdx.map fun p => (p.1, idN p.2) := by
    unfold initN
    rw [List.map_map]
    exact List.map_congr_left fun p _ => (rfl : (p.1, idN p.2) = (p.1, idN p.2))
  rw [h1, h2])
theorem okN_n0 {s : ByteArray} {i : Nat} (h1 : nameOk (bytesOf s) = true) (h2 : ¬ idN i = 0#64) : okN (n0 s i) = true := by
  unfold okN
  rw [show (n0 s i).name = s from rfl, show (n0 s i).id = idN i from rfl, h1, decide_eq_false h2]
  rfl
theorem chkN_two {a b : Hop} (ha : okN a = true) (hb : okN b = true) (hn : a.name ≠ b.name) (hi : a.id ≠ b.id) : chkN [a, b] = 0 := by
  refine chkN_0 (by simp) (fun x hx => ?_) ((once_iff _).2 ⟨by simpa using hn, by simpa using hi⟩)
  simp only [List.mem_cons, List.not_mem_nil, or_false] at hx
  rcases hx with rfl | rfl
  · exact ha
  · exact hb
def bobS : ByteArray := ⟨#[98, 111, 98]⟩
def alS : ByteArray := ⟨#[97, 108]⟩
def aS : ByteArray := ⟨#[97]⟩
def aN : Hop := ⟨aS, 0#64, zero32, zero32, 0, 0⟩
theorem chk_bob : chkN (initN [bobS, alS]) = 0 := chkN_two (a := n0 bobS 0) (b := n0 alS 1) (okN_n0 (by decide) (by decide)) (okN_n0 (by decide) (by decide)) (show bobS ≠ alS by decide) (show idN 0 ≠ idN 1 by decide)
theorem chk_aN : chkN [aN] = 3 := chkN_3 (by simp) (x := aN) (by simp) (by decide)

theorem awake09_b (w : World) : Spec Try.prog 8 #[] w (σ := Unit) (fun _ => True) (fun _ => .bool true) Nob (fun _ => []) := by
  refine enter Try.func8 rfl rfl (Mem.start w) ?_
  have hM : makeN [1#8] [bobS, alS] = (finN [1#8] [bobS, alS], 0) := if_pos chk_bob
  have hfl := finN_length [1#8] [bobS, alS]
  have hfo := finN_ok [1#8] [bobS, alS]
  have hck : chkN (finN [1#8] [bobS, alS]) = 0 := by rw [chkN_fin, chk_bob]
  have g0 : (finN [1#8] [bobS, alS])[0]? = some (n1 [1#8] bobS 0) := rfl
  have g1 : (finN [1#8] [bobS, alS])[1]? = some (n1 [1#8] alS 1) := rfl
  have c0 := nodsC_cell hfo g0 (node_0 _)
  have c1 := nodsC_cell hfo g1 (node_1 _)
  have hcl := nodsC_length hfo
  rw [hfl] at hcl
  have haN : (nodeC aN).length = 66 := nodeC_length ⟨List.length_replicate, List.length_replicate⟩
  have hsq : seqCells 66 0 [(0, Value.agg (nodeC aN).toArray)] = some (nodeC aN) := by simp [seqCells, Value.cells, haN]
  (repeat refine g_seq ?_)
  refine g_region ?_
  refine g_pu rfl rfl rfl (pu_assign rfl rfl) ?_
  refine g_nil ?_
  (repeat refine g_seq ?_)
  refine g_region ?_
  refine g_lo [4] rfl rfl rfl rfl (lo_buildSlice rfl rfl (by decide) (by decide) rfl rfl) (fun b4 hb4 => ?_)
  refine g_lo [5] rfl rfl rfl rfl (lo_buildSlice rfl rfl (by decide) (by decide) rfl rfl) (fun b5 hb5 => ?_)
  refine g_call [6] rfl rfl rfl rfl rfl rfl (fun w' hm => DMake_b w' 1 2 (seed := [1#8]) (ss := [bobS, alS]) (By.full 4 rfl hm rfl (by omega)) (hm.rowA 5 (L := [bobS, alS].map Value.string) rfl) rfl (by omega) (by omega)) (fun x6 _ => ?_)
  rw [hM]
  dsimp only
  rw [hfl]
  refine g_pu rfl rfl rfl (pu_move rfl rfl) ?_
  refine g_pu rfl rfl rfl (pu_extract rfl rfl rfl) ?_
  refine g_pu rfl rfl rfl (pu_extract rfl rfl rfl) ?_
  refine g_pu rfl rfl rfl (pu_assign rfl rfl) ?_
  refine g_pu rfl rfl rfl (pu_assign rfl rfl) ?_
  refine g_nil ?_
  generalize hF : finN [1#8] [bobS, alS] = F at hM hfl hfo hck c0 c1 hcl g0 g1
  (repeat refine g_seq ?_)
  refine g_region ?_
  refine g_pu rfl rfl rfl (pu_move rfl rfl) ?_
  refine g_pu rfl rfl rfl (pu_eql_t rfl rfl rfl rfl) ?_
  refine g_pu rfl rfl rfl (pu_move rfl rfl) ?_
  first | refine g_pass rfl rfl rfl ?_ | refine g_pu rfl rfl rfl (pu_move rfl rfl) ?_
  first | refine g_pass rfl rfl rfl ?_ | refine g_pu rfl rfl rfl (pu_len rfl rfl) ?_ | refine g_pu rfl rfl rfl (pu_lenS rfl rfl) ?_
  refine g_pu rfl rfl rfl (pu_eql_t rfl rfl rfl rfl) ?_
  first | refine g_pu rfl rfl rfl (pu_pick_t rfl rfl rfl) ?_ | refine g_pu rfl rfl rfl (pu_pick_f rfl rfl rfl) ?_
  refine g_pu rfl rfl rfl (pu_move rfl rfl) ?_
  first | refine g_pass rfl rfl rfl ?_ | refine g_pu rfl rfl rfl (pu_move rfl rfl) ?_
  refine g_pu rfl rfl rfl (pu_atM 0 (s := 66) (L := nodsC F) (fun w' hm => Ow.rd (t := 6) rfl hm) rfl rfl rfl rfl (by decide) (by rw [hcl]; decide)) ?_
  refine g_pu rfl rfl rfl (pu_fieldM (L := nodsC F) (fun w' hm => Ow.rd (t := 6) rfl hm) (by rw [hcl]; decide) (by decide) rfl rfl) ?_
  refine g_pu rfl rfl rfl (pu_rdM (L := nodsC F) (j := 0 * 66 + 0) (fun w' hm => Ow.rd (t := 6) rfl hm) rfl rfl c0) ?_
  refine g_pu rfl rfl rfl (pu_eqlS_t rfl rfl rfl rfl) ?_
  first | refine g_pu rfl rfl rfl (pu_pick_t rfl rfl rfl) ?_ | refine g_pu rfl rfl rfl (pu_pick_f rfl rfl rfl) ?_
  refine g_pu rfl rfl rfl (pu_move rfl rfl) ?_
  first | refine g_pass rfl rfl rfl ?_ | refine g_pu rfl rfl rfl (pu_move rfl rfl) ?_
  refine g_pu rfl rfl rfl (pu_atM 1 (s := 66) (L := nodsC F) (fun w' hm => Ow.rd (t := 6) rfl hm) rfl rfl rfl rfl (by decide) (by rw [hcl]; decide)) ?_
  refine g_pu rfl rfl rfl (pu_fieldM (L := nodsC F) (fun w' hm => Ow.rd (t := 6) rfl hm) (by rw [hcl]; decide) (by decide) rfl rfl) ?_
  refine g_pu rfl rfl rfl (pu_rdM (L := nodsC F) (j := 1 * 66 + 1) (fun w' hm => Ow.rd (t := 6) rfl hm) rfl rfl c1) ?_
  refine g_pu rfl rfl rfl (pu_eql64_t (a := idN 1) (b := 2#64) rfl rfl rfl (by decide)) ?_
  first | refine g_pu rfl rfl rfl (pu_pick_t rfl rfl rfl) ?_ | refine g_pu rfl rfl rfl (pu_pick_f rfl rfl rfl) ?_
  refine g_pu rfl rfl rfl (pu_move rfl rfl) ?_
  first | refine g_pass rfl rfl rfl ?_ | refine g_pu rfl rfl rfl (pu_move rfl rfl) ?_
  refine g_call [] rfl rfl rfl rfl rfl rfl (fun w' hm => DCheck_b w' x6.c (hs := F) (Ow.rd (t := 6) rfl hm) hfl hfo) (fun _ _ => ?_)
  rw [hck]
  refine g_pu rfl rfl rfl (pu_eql_t rfl rfl rfl rfl) ?_
  first | refine g_pu rfl rfl rfl (pu_pick_t rfl rfl rfl) ?_ | refine g_pu rfl rfl rfl (pu_pick_f rfl rfl rfl) ?_
  refine g_pu rfl rfl rfl (pu_move rfl rfl) ?_
  refine g_pu rfl rfl rfl (pu_buildS (cs := nodeC aN) rfl rfl rfl) ?_
  refine g_lo [37] rfl rfl rfl rfl (lo_buildSlice rfl rfl (by decide) (by decide) rfl hsq) (fun b37 hb37 => ?_)
  refine g_call [] rfl rfl rfl rfl rfl rfl (fun w' hm => DCheck_b w' 1 (hs := [aN]) (by rw [nodsC_one]; exact hm.rowA 37 rfl) rfl (fun x hx => by rw [List.mem_singleton.1 hx]; exact ⟨List.length_replicate, List.length_replicate⟩)) (fun _ _ => ?_)
  rw [chk_aN]
  refine g_pu rfl rfl rfl (pu_eql_t rfl rfl rfl rfl) ?_
  first | refine g_pu rfl rfl rfl (pu_pick_t rfl rfl rfl) ?_ | refine g_pu rfl rfl rfl (pu_pick_f rfl rfl rfl) ?_
  refine g_pu rfl rfl rfl (pu_assign rfl rfl) ?_
  refine g_nil ?_
  exact g_ret1 rfl rfl (fun w' hm => ⟨(), trivial, rfl, hm.grows [] trivial rfl⟩)
end Go.Sx

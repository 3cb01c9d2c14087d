import Derived.Test.YthhfcambdmdgfaaKstaa
import Derived.Laws.CopyRow
import Derived.Laws.CopyOwn
import Derived.Laws.OwnMore
import Derived.Laws.MakeOwn
import Derived.Lib.SlBuf
import Derived.Test.YthhfcambdmdgfaaKstab
import Derived.ProofKit
import Derived.OpenShut
import Derived.ShutString
import Derived.ChangeOld
import Derived.Deep.Slices
import Derived.Test.YthhfcambdmdgfaaProg
import Derived.IntWalk
namespace Go.Proofs.Ythhfcambdmdgfaa
open Go.RowKit
set_option linter.unusedVariables false
set_option linter.unusedSimpArgs false
theorem addr_add (g off j : Nat) : (⟨g, off, none⟩ : Addr).add j = ⟨g, off + j, none⟩ := by unfold Addr.add; split <;> simp_all
theorem setRow_kept {w : World} {g : Nat} {cur : Array Value} {T : TypeId} (h : w.heap[g]? = some (.cells cur T)) (cs : Array Value) : (w.setRow g cs).heap[g]? = some (.cells cs T) ∧ Kept (fun k => k = g) w (w.setRow g cs) := by
  refine ⟨setRow_heap w g cur cs T _ h, ?_⟩
  exact ⟨rfl, rfl, rfl, by simp [World.setRow], fun k hk hx => setRow_other w g k cs hx⟩
theorem run_copy_all {P : Program} (w : World) (t ty elem : TypeId) (i : TypeInfo) (sz : Nat) (hu : P.underlying t = some (.slice elem)) (hi : P.info? elem = some i) (hsize : i.size = sz) (g n : Nat) (cur : Array Value) (T : TypeId)
    (hg : w.heap[g]? = some (.cells cur T)) (hcur : cur.size = n * sz) (u : Value) (cs : List Value) (hr : SliS w u sz n cs) (h1 : ∀ y ∈ cs, y.oneCell' = true) :
    ∃ w', (Builtin.copy_ #[t, t] ty #[.slice (some ⟨g, 0, none⟩) n n, u]).run P w = .ok (goInt n) w' ∧ w'.heap[g]? = some (.cells cs.toArray T) ∧ Kept (fun k => k = g) w w' := by
  obtain ⟨hl, A, c, rfl, hc, hx⟩ := hr
  cases A with
  | none =>
    have hn : n = 0 := by
      rcases hx with h | ⟨b, off, h, _⟩
      · exact h
      · cases h
    subst hn
    obtain rfl : cs = [] := List.eq_nil_of_length_eq_zero (by simpa using hl)
    refine ⟨w, ?_, ?_, Kept.refl _ _⟩
    · simp [Builtin.copy_, run_underlying hu, Builtin.lenOf, Builtin.firstCells, sizeOf, typeInfo, hi, storeCells]
    · rw [hg]; congr 2; exact Array.eq_empty_of_size_eq_zero (by simpa using hcur)
  | some ad =>
    have hsrc : ∀ j y, cs[j]? = some y → w.cell? (ad.add j) = some y := fun j y hj => by
      rcases hx with h | ⟨b, off, h, hx⟩
      · subst h
        obtain rfl : cs = [] := List.eq_nil_of_length_eq_zero (by simpa using hl)
        simp at hj
      · cases h
        rw [addr_add]; exact hx j y hj
    have hld := run_loadCells_list (P := P) w ad cs hsrc
    have hst := run_storeCells_at P g 0 T cs 0 cur w hg (by omega) h1
    obtain ⟨k1, k2⟩ := setRow_kept hg cs.toArray
    have e : (cur.toList.take (0 + 0) ++ cs ++ cur.toList.drop (0 + 0 + cs.length)).toArray = cs.toArray := by
      rw [List.drop_of_length_le (by simp; omega)]; simp
    refine ⟨w.setRow g cs.toArray, ?_, k1, k2⟩
    rw [e] at hst
    simp [Builtin.copy_, run_underlying hu, Builtin.lenOf, Builtin.firstCells, sizeOf, typeInfo, hi, hsize, hc, ← hl, hld, hst]
end Go.Proofs.Ythhfcambdmdgfaa
namespace Go.Proofs.Ythhfcambdmdgfaa
open Go.RowKit Go.Maps
set_option linter.unusedVariables false
set_option linter.unusedSimpArgs false
theorem info_res : (Try.prog.info? 112).map (fun i => (i.zero, i.size, i.bytes)) = some (some (.agg #[.string ⟨#[]⟩, .int .i64 0]), 2, 24) := by kernel_rfl
/-- A fresh list of resources: in blocks from b on. -/
def ResF (w : World) (b : Nat) (x : Value) (l : Res) : Prop := ∃ g, b ≤ g ∧ x = .slice (some ⟨g, 0, none⟩) l.length l.length ∧ w.heap[g]? = some (.cells (resC l).toArray 112)
theorem ResF.resS {w : World} {b : Nat} {x : Value} {l : Res} (h : ResF w b x l) (hi : ∀ p ∈ l, in64 p.2) : ResS w x l := by
  obtain ⟨g, _, rfl, hg⟩ := h
  exact ⟨sliS_lit hg (resC_len l), hi⟩
theorem Kept.frozen {X : Nat → Prop} {w w' : World} (h : Kept X w w') {a : Addr} (hl : a.block < w.heap.size) (hx : ¬ X a.block) (hf : w.frozen? a = false) : w'.frozen? a = false := by
  rw [World.frozen?_of_block (h.block a.block hl hx)]; exact hf
set_option maxRecDepth 100000 in
set_option maxHeartbeats 8000000 in
theorem own_calls (w : World) {sl : Value} {o : ObjD} (h : ObjS w sl o) (hl : o.charge.length ≤ 100000) :
    Calls Try.prog 56 #[objV o sl] w fun e w' => ∃ x, e = .returned (objV o x) ∧ ResF w' w.heap.size x o.charge ∧ Below w.heap.size w w' := by
  have hB := Below.refl w.heap.size w
  have H := Lib.hid h.1
  obtain ⟨al, cl, rfl⟩ := h.1.form
  have hin := Lib.hid h.1.2
  clear h
  obtain ⟨l, hl'⟩ : ∃ l, o.charge = l := ⟨_, rfl⟩
  rw [hl'] at H hl hin ⊢
  clear hl'
  obtain ⟨⟨kk, ks, kn⟩, ver, cls, term, best, chg⟩ := o
  obtain ⟨i0, hi, hz0, hz1, hz2⟩ := info_parts info_res
  unfold objV
  simp only
  go_enter Try.func56, Try.ntmps56
  go_upto_region 1 with fail
  first | with_reducible refine name_wp ?_ | with_reducible refine name_calls ?_
  intro W hWeq
  have g0 : W.heap[w.heap.size]? = some (.cells #[.string kk, .string ks, .string kn, .int .i64 ver, .string cls, .bool term, .bool best, .slice al l.length cl] 27) := by rw [hWeq]; repeat (first | (with_reducible exact blk_newAt _ _ (by simp)) | with_reducible refine blk_drew ?_ | with_reducible refine blk_dN ?_ _ | with_reducible refine blk_old ?_ _)
  have g1 : W.heap[w.heap.size + 1]? = some (.cells #[.string ⟨#[]⟩, .string ⟨#[]⟩, .string ⟨#[]⟩, .int .i64 0, .string ⟨#[]⟩, .bool false, .bool false, .slice none 0 0] 27) := by rw [hWeq]; repeat (first | (with_reducible exact blk_newAt _ _ (by simp)) | with_reducible refine blk_drew ?_ | with_reducible refine blk_dN ?_ _ | with_reducible refine blk_old ?_ _)
  have hw : Below w.heap.size w W := by rw [hWeq]; repeat (first | with_reducible exact Below.refl _ _ | with_reducible refine Below.drew ?_ | with_reducible refine bl_dN ?_ _ | with_reducible refine Below.alloc ?_ (by simp <;> omega) _)
  clear hWeq
  have hz : w.heap.size + 2 ≤ W.heap.size := by have := blk_lt g1; omega
  have c0_0 : W.cell? ⟨w.heap.size, 0, none⟩ = some (.string kk) := blk_cell g0 0
  have c0_1 : W.cell? ⟨w.heap.size, 1, none⟩ = some (.string ks) := blk_cell g0 1
  have c0_2 : W.cell? ⟨w.heap.size, 2, none⟩ = some (.string kn) := blk_cell g0 2
  have c0_3 : W.cell? ⟨w.heap.size, 3, none⟩ = some (.int .i64 ver) := blk_cell g0 3
  have c0_4 : W.cell? ⟨w.heap.size, 4, none⟩ = some (.string cls) := blk_cell g0 4
  have c0_5 : W.cell? ⟨w.heap.size, 5, none⟩ = some (.bool term) := blk_cell g0 5
  have c0_6 : W.cell? ⟨w.heap.size, 6, none⟩ = some (.bool best) := blk_cell g0 6
  have c0_7 : W.cell? ⟨w.heap.size, 7, none⟩ = some (.slice al l.length cl) := blk_cell g0 7
  have f0 : ∀ j, W.frozen? ⟨w.heap.size, j, none⟩ = false := blk_free g0
  have c1_0 : W.cell? ⟨w.heap.size + 1, 0, none⟩ = some (.string ⟨#[]⟩) := blk_cell g1 0
  have c1_1 : W.cell? ⟨w.heap.size + 1, 1, none⟩ = some (.string ⟨#[]⟩) := blk_cell g1 1
  have c1_2 : W.cell? ⟨w.heap.size + 1, 2, none⟩ = some (.string ⟨#[]⟩) := blk_cell g1 2
  have c1_3 : W.cell? ⟨w.heap.size + 1, 3, none⟩ = some (.int .i64 0) := blk_cell g1 3
  have c1_4 : W.cell? ⟨w.heap.size + 1, 4, none⟩ = some (.string ⟨#[]⟩) := blk_cell g1 4
  have c1_5 : W.cell? ⟨w.heap.size + 1, 5, none⟩ = some (.bool false) := blk_cell g1 5
  have c1_6 : W.cell? ⟨w.heap.size + 1, 6, none⟩ = some (.bool false) := blk_cell g1 6
  have c1_7 : W.cell? ⟨w.heap.size + 1, 7, none⟩ = some (.slice none 0 0) := blk_cell g1 7
  have f1 : ∀ j, W.frozen? ⟨w.heap.size + 1, j, none⟩ = false := blk_free g1
  have hB : Below W.heap.size W W := Below.refl _ _
  have G0 := Lib.hid g0; clear g0
  have F0 := Lib.hid f0; clear f0
  have G1 := Lib.hid g1; clear g1
  have F1 := Lib.hid f1; clear f1
  have Hw := Lib.hid hw; clear hw
  have HW := Lib.hid (H.out.below Hw.out)
  have hWw := Hw.out.size
  have hmk : ∀ W : World, (Instr.makeSlice 25 (.int .i64 (l.length : Int)) (.int .i64 (l.length : Int))).run Try.prog W = .ok (.slice (some ⟨W.heap.size, 0, none⟩) l.length l.length) (W.alloc (.cells (madeCells (Value.agg #[.string ⟨#[]⟩, .int .i64 0]).cells (l.length * 2)) 112)) := fun W => by
    have h := run_makeSlice W 25 112 i0 _ Try.underlying25 hi hz0 .i64 .i64 (l.length : Int) (l.length : Int) (by omega) (Int.le_refl _) (by rw [hz1]; simp; omega) (by rw [hz2]; omega) (by omega)
    rw [hz1] at h
    simpa using h
  have HI := Lib.hid (And.intro hi hz1)
  clear hi hz0 hz1 hz2
  go_upto_region 2 with fail
  clear hmk
  obtain ⟨W2, hW2⟩ : ∃ W2, W2 = W.alloc (.cells (madeCells (Value.agg #[.string ⟨#[]⟩, .int .i64 0]).cells (l.length * 2)) 112) := ⟨_, rfl⟩
  have hb2 : Below W.heap.size W W2 := by rw [hW2]; exact (Below.refl _ _).alloc (Nat.le_refl _) _
  have hg2 : W2.heap[W.heap.size]? = some (.cells (madeCells (Value.agg #[.string ⟨#[]⟩, .int .i64 0]).cells (l.length * 2)) 112) := by rw [hW2]; exact blk_new W _
  have hshow : W.alloc (.cells (madeCells #[.string ⟨#[]⟩, .int .i64 0] (l.length * 2)) 112) = W2 := by rw [hW2]; rfl
  rw [hshow]
  clear hW2 hshow
  obtain ⟨w3, hrun, hg3, hk3⟩ := run_copy_all (P := Try.prog) W2 25 3 112 i0 2 Try.underlying25 HI.out.1 HI.out.2 W.heap.size l.length _ _ hg2 (size_madeCells _ _) _ (resC l) (HW.out.below hb2).1 (resC_one l)
  have d0_0 := cb hb2 c0_0
  have d0_1 := cb hb2 c0_1
  have d0_2 := cb hb2 c0_2
  have d0_3 := cb hb2 c0_3
  have d0_4 := cb hb2 c0_4
  have d0_5 := cb hb2 c0_5
  have d0_6 := cb hb2 c0_6
  have d0_7 := cb hb2 c0_7
  have d1_0 := cb hb2 c1_0
  have d1_1 := cb hb2 c1_1
  have d1_2 := cb hb2 c1_2
  have d1_3 := cb hb2 c1_3
  have d1_4 := cb hb2 c1_4
  have d1_5 := cb hb2 c1_5
  have d1_6 := cb hb2 c1_6
  have d1_7 := cb hb2 c1_7
  have e0_0 := fb hb2 (lt_of_cell c0_0) (F0.out 0)
  have e0_1 := fb hb2 (lt_of_cell c0_1) (F0.out 1)
  have e0_2 := fb hb2 (lt_of_cell c0_2) (F0.out 2)
  have e0_3 := fb hb2 (lt_of_cell c0_3) (F0.out 3)
  have e0_4 := fb hb2 (lt_of_cell c0_4) (F0.out 4)
  have e0_5 := fb hb2 (lt_of_cell c0_5) (F0.out 5)
  have e0_6 := fb hb2 (lt_of_cell c0_6) (F0.out 6)
  have e0_7 := fb hb2 (lt_of_cell c0_7) (F0.out 7)
  have e1_0 := fb hb2 (lt_of_cell c1_0) (F1.out 0)
  have e1_1 := fb hb2 (lt_of_cell c1_1) (F1.out 1)
  have e1_2 := fb hb2 (lt_of_cell c1_2) (F1.out 2)
  have e1_3 := fb hb2 (lt_of_cell c1_3) (F1.out 3)
  have e1_4 := fb hb2 (lt_of_cell c1_4) (F1.out 4)
  have e1_5 := fb hb2 (lt_of_cell c1_5) (F1.out 5)
  have e1_6 := fb hb2 (lt_of_cell c1_6) (F1.out 6)
  have e1_7 := fb hb2 (lt_of_cell c1_7) (F1.out 7)
  have hlt0 := blk_lt G0.out; have hlt1 := blk_lt G1.out
  have k0_0 := hk3.cell d0_0 (by show ¬ (_ = W.heap.size); simp only; omega)
  have k0_1 := hk3.cell d0_1 (by show ¬ (_ = W.heap.size); simp only; omega)
  have k0_2 := hk3.cell d0_2 (by show ¬ (_ = W.heap.size); simp only; omega)
  have k0_3 := hk3.cell d0_3 (by show ¬ (_ = W.heap.size); simp only; omega)
  have k0_4 := hk3.cell d0_4 (by show ¬ (_ = W.heap.size); simp only; omega)
  have k0_5 := hk3.cell d0_5 (by show ¬ (_ = W.heap.size); simp only; omega)
  have k0_6 := hk3.cell d0_6 (by show ¬ (_ = W.heap.size); simp only; omega)
  have k0_7 := hk3.cell d0_7 (by show ¬ (_ = W.heap.size); simp only; omega)
  have k1_0 := hk3.cell d1_0 (by show ¬ (_ = W.heap.size); simp only; omega)
  have k1_1 := hk3.cell d1_1 (by show ¬ (_ = W.heap.size); simp only; omega)
  have k1_2 := hk3.cell d1_2 (by show ¬ (_ = W.heap.size); simp only; omega)
  have k1_3 := hk3.cell d1_3 (by show ¬ (_ = W.heap.size); simp only; omega)
  have k1_4 := hk3.cell d1_4 (by show ¬ (_ = W.heap.size); simp only; omega)
  have k1_5 := hk3.cell d1_5 (by show ¬ (_ = W.heap.size); simp only; omega)
  have k1_6 := hk3.cell d1_6 (by show ¬ (_ = W.heap.size); simp only; omega)
  have k1_7 := hk3.cell d1_7 (by show ¬ (_ = W.heap.size); simp only; omega)
  have f0_0 : w3.frozen? ⟨w.heap.size, 0, none⟩ = false := hk3.frozen (lt_of_cell d0_0) (by show ¬ (_ = W.heap.size); simp only; omega) e0_0
  have f0_1 : w3.frozen? ⟨w.heap.size, 1, none⟩ = false := hk3.frozen (lt_of_cell d0_1) (by show ¬ (_ = W.heap.size); simp only; omega) e0_1
  have f0_2 : w3.frozen? ⟨w.heap.size, 2, none⟩ = false := hk3.frozen (lt_of_cell d0_2) (by show ¬ (_ = W.heap.size); simp only; omega) e0_2
  have f0_3 : w3.frozen? ⟨w.heap.size, 3, none⟩ = false := hk3.frozen (lt_of_cell d0_3) (by show ¬ (_ = W.heap.size); simp only; omega) e0_3
  have f0_4 : w3.frozen? ⟨w.heap.size, 4, none⟩ = false := hk3.frozen (lt_of_cell d0_4) (by show ¬ (_ = W.heap.size); simp only; omega) e0_4
  have f0_5 : w3.frozen? ⟨w.heap.size, 5, none⟩ = false := hk3.frozen (lt_of_cell d0_5) (by show ¬ (_ = W.heap.size); simp only; omega) e0_5
  have f0_6 : w3.frozen? ⟨w.heap.size, 6, none⟩ = false := hk3.frozen (lt_of_cell d0_6) (by show ¬ (_ = W.heap.size); simp only; omega) e0_6
  have f0_7 : w3.frozen? ⟨w.heap.size, 7, none⟩ = false := hk3.frozen (lt_of_cell d0_7) (by show ¬ (_ = W.heap.size); simp only; omega) e0_7
  have f1_0 : w3.frozen? ⟨w.heap.size + 1, 0, none⟩ = false := hk3.frozen (lt_of_cell d1_0) (by show ¬ (_ = W.heap.size); simp only; omega) e1_0
  have f1_1 : w3.frozen? ⟨w.heap.size + 1, 1, none⟩ = false := hk3.frozen (lt_of_cell d1_1) (by show ¬ (_ = W.heap.size); simp only; omega) e1_1
  have f1_2 : w3.frozen? ⟨w.heap.size + 1, 2, none⟩ = false := hk3.frozen (lt_of_cell d1_2) (by show ¬ (_ = W.heap.size); simp only; omega) e1_2
  have f1_3 : w3.frozen? ⟨w.heap.size + 1, 3, none⟩ = false := hk3.frozen (lt_of_cell d1_3) (by show ¬ (_ = W.heap.size); simp only; omega) e1_3
  have f1_4 : w3.frozen? ⟨w.heap.size + 1, 4, none⟩ = false := hk3.frozen (lt_of_cell d1_4) (by show ¬ (_ = W.heap.size); simp only; omega) e1_4
  have f1_5 : w3.frozen? ⟨w.heap.size + 1, 5, none⟩ = false := hk3.frozen (lt_of_cell d1_5) (by show ¬ (_ = W.heap.size); simp only; omega) e1_5
  have f1_6 : w3.frozen? ⟨w.heap.size + 1, 6, none⟩ = false := hk3.frozen (lt_of_cell d1_6) (by show ¬ (_ = W.heap.size); simp only; omega) e1_6
  have f1_7 : w3.frozen? ⟨w.heap.size + 1, 7, none⟩ = false := hk3.frozen (lt_of_cell d1_7) (by show ¬ (_ = W.heap.size); simp only; omega) e1_7
  have hw3 : w.heap.size + 1 < w3.heap.size := by have := hk3.size; have := hb2.size; omega
  go_wp2_with (at_builtin; refine Lib.wpList_copy_run _ rfl (.tmp 8) (.tmp 10) _ _ rfl _ _ rfl rfl hrun ?_)
  clear hrun
  refine name_body ?_
  intro U hU
  have hb3 : Below w.heap.size w w3 := (Hw.out.trans (hb2.mono hWw)).trans (hk3.below (B := w.heap.size) (by have := hb2.size; omega) (fun k e => by rw [e]; exact hWw))
  have hbU : Below w.heap.size w U := by
    rw [hU]
    repeat (refine Below.setCell ?_ (by simp) _)
    exact hb3
  have hgU : U.heap[W.heap.size]? = some (.cells (resC l).toArray 112) := by
    rw [hU]
    repeat (refine (Below.heap_setCell _ _ _ _ (by simp only; omega)).trans ?_)
    exact hg3
  have r0 : U.cell? ⟨w.heap.size + 1, 0, none⟩ = some (.string kk) := by rw [hU]; go_simp
  have r1 : U.cell? ⟨w.heap.size + 1, 1, none⟩ = some (.string ks) := by rw [hU]; go_simp
  have r2 : U.cell? ⟨w.heap.size + 1, 2, none⟩ = some (.string kn) := by rw [hU]; go_simp
  have r3 : U.cell? ⟨w.heap.size + 1, 3, none⟩ = some (.int .i64 ver) := by rw [hU]; go_simp
  have r4 : U.cell? ⟨w.heap.size + 1, 4, none⟩ = some (.string cls) := by rw [hU]; go_simp
  have r5 : U.cell? ⟨w.heap.size + 1, 5, none⟩ = some (.bool term) := by rw [hU]; go_simp
  have r6 : U.cell? ⟨w.heap.size + 1, 6, none⟩ = some (.bool best) := by rw [hU]; go_simp
  have r7 : U.cell? ⟨w.heap.size + 1, 7, none⟩ = some (.slice (some ⟨W.heap.size, 0, none⟩) l.length l.length) := by rw [hU]; go_simp
  clear hU
  refine bodyPost_ret (v := .agg #[.string kk, .string ks, .string kn, .int .i64 ver, .string cls, .bool term, .bool best, .slice (some ⟨W.heap.size, 0, none⟩) l.length l.length])
    (by simp [results, Try.results56, go_sem, r0, r1, r2, r3, r4, r5, r6, r7]) rfl ⟨_, rfl, ⟨W.heap.size, hWw, rfl, hgU⟩, hbU⟩
end Go.Proofs.Ythhfcambdmdgfaa
namespace Go.Proofs.Ythhfcambdmdgfaa
open Go.RowKit Go.Maps
set_option linter.unusedVariables false
set_option linter.unusedSimpArgs false
def alikeO (a b : ObjD) : Bool := decide (a.key.kind = b.key.kind) && decide (a.key.space = b.key.space) && decide (a.key.name = b.key.name) && decide (a.cls = b.cls) && (a.term == b.term) && (a.best == b.best) && decide (a.charge = b.charge)
def sameO (a b : ObjD) : Bool := alikeO a b && decide (a.ver = b.ver)
theorem objD_ext {a b : ObjD} (h : sameO a b = true) : a = b := by
  unfold sameO alikeO at h
  simp only [Bool.and_eq_true, decide_eq_true_eq, beq_iff_eq] at h
  obtain ⟨⟨⟨⟨⟨⟨⟨h1, h2⟩, h3⟩, h4⟩, h5⟩, h6⟩, h7⟩, h8⟩ := h
  obtain ⟨ka, va, ca, ta, ba, la⟩ := a
  obtain ⟨kb, vb, cb, tb, bb, lb⟩ := b
  simp only at h1 h2 h3 h4 h5 h6 h7 h8
  rw [keyD_ext h1 h2 h3, h4, h5, h6, h7, h8]
theorem sameO_refl (a : ObjD) : sameO a a = true := by unfold sameO alikeO; simp
set_option maxRecDepth 100000 in
set_option maxHeartbeats 16000000 in
theorem oalike_calls (w : World) {sa sb : Value} {a b : ObjD} (ha : ObjS w sa a) (hb : ObjS w sb b) (hl : a.charge.length ≤ 1000000 ∧ b.charge.length ≤ 1000000) :
    Calls Try.prog 87 #[objV a sa, objV b sb] w fun e w' => e = .returned (.bool (alikeO a b)) ∧ Below w.heap.size w w' := by
  have HA := Lib.hid ha.1; have HB := Lib.hid hb.1
  obtain ⟨aa, ca, rfl⟩ := ha.1.form
  obtain ⟨ab, cb', rfl⟩ := hb.1.form
  obtain ⟨hl1, hl2⟩ := hl
  obtain ⟨la, hla⟩ : ∃ l, a.charge = l := ⟨_, rfl⟩
  obtain ⟨lb, hlb⟩ : ∃ l, b.charge = l := ⟨_, rfl⟩
  obtain ⟨kka, hka⟩ : ∃ s, a.key.kind = s := ⟨_, rfl⟩
  obtain ⟨kkb, hkb⟩ : ∃ s, b.key.kind = s := ⟨_, rfl⟩
  obtain ⟨ksa, hsa⟩ : ∃ s, a.key.space = s := ⟨_, rfl⟩
  obtain ⟨ksb, hsb⟩ : ∃ s, b.key.space = s := ⟨_, rfl⟩
  obtain ⟨kna, hna⟩ : ∃ s, a.key.name = s := ⟨_, rfl⟩
  obtain ⟨knb, hnb⟩ : ∃ s, b.key.name = s := ⟨_, rfl⟩
  obtain ⟨clsa, hca⟩ : ∃ s, a.cls = s := ⟨_, rfl⟩
  obtain ⟨clsb, hcb⟩ : ∃ s, b.cls = s := ⟨_, rfl⟩
  obtain ⟨terma, hta⟩ : ∃ s, a.term = s := ⟨_, rfl⟩
  obtain ⟨termb, htb⟩ : ∃ s, b.term = s := ⟨_, rfl⟩
  obtain ⟨besta, hba⟩ : ∃ s, a.best = s := ⟨_, rfl⟩
  obtain ⟨bestb, hbb⟩ : ∃ s, b.best = s := ⟨_, rfl⟩
  obtain ⟨vera, hva⟩ : ∃ s, a.ver = s := ⟨_, rfl⟩
  obtain ⟨verb, hvb⟩ : ∃ s, b.ver = s := ⟨_, rfl⟩
  have HAL : Hid (alikeO a b = (decide (kka = kkb) && decide (ksa = ksb) && decide (kna = knb) && decide (clsa = clsb) && (terma == termb) && (besta == bestb) && decide (la = lb))) := Lib.hid (by unfold alikeO; rw [hla, hlb, hka, hkb, hsa, hsb, hna, hnb, hca, hcb, hta, htb, hba, hbb])
  unfold objV
  rw [hla] at HA hl1
  rw [hlb] at HB hl2
  rw [hla, hlb, hka, hkb, hsa, hsb, hna, hnb, hca, hcb, hta, htb, hba, hbb, hva, hvb]
  clear ha hb hla hlb hka hkb hsa hsb hna hnb hca hcb hta htb hba hbb hva hvb
  go_enter Try.func87, Try.ntmps87
  go_upto_region 1 with fail
  first | with_reducible refine name_wp ?_ | with_reducible refine name_calls ?_
  intro W hWeq
  have g0 : W.heap[w.heap.size]? = some (.cells #[.string kka, .string ksa, .string kna, .int .i64 vera, .string clsa, .bool terma, .bool besta, .slice aa la.length ca] 27) := by rw [hWeq]; repeat (first | (with_reducible exact blk_newAt _ _ (by simp)) | with_reducible refine blk_drew ?_ | with_reducible refine blk_dN ?_ _ | with_reducible refine blk_old ?_ _)
  have g1 : W.heap[w.heap.size + 1]? = some (.cells #[.string kkb, .string ksb, .string knb, .int .i64 verb, .string clsb, .bool termb, .bool bestb, .slice ab lb.length cb'] 27) := by rw [hWeq]; repeat (first | (with_reducible exact blk_newAt _ _ (by simp)) | with_reducible refine blk_drew ?_ | with_reducible refine blk_dN ?_ _ | with_reducible refine blk_old ?_ _)
  have hw : Below w.heap.size w W := by rw [hWeq]; repeat (first | with_reducible exact Below.refl _ _ | with_reducible refine Below.drew ?_ | with_reducible refine bl_dN ?_ _ | with_reducible refine Below.alloc ?_ (by simp <;> omega) _)
  clear hWeq
  have hz : w.heap.size + 2 ≤ W.heap.size := by have := blk_lt g1; omega
  have c0_0 : W.cell? ⟨w.heap.size, 0, none⟩ = some (.string kka) := blk_cell g0 0
  have c0_1 : W.cell? ⟨w.heap.size, 1, none⟩ = some (.string ksa) := blk_cell g0 1
  have c0_2 : W.cell? ⟨w.heap.size, 2, none⟩ = some (.string kna) := blk_cell g0 2
  have c0_3 : W.cell? ⟨w.heap.size, 3, none⟩ = some (.int .i64 vera) := blk_cell g0 3
  have c0_4 : W.cell? ⟨w.heap.size, 4, none⟩ = some (.string clsa) := blk_cell g0 4
  have c0_5 : W.cell? ⟨w.heap.size, 5, none⟩ = some (.bool terma) := blk_cell g0 5
  have c0_6 : W.cell? ⟨w.heap.size, 6, none⟩ = some (.bool besta) := blk_cell g0 6
  have c0_7 : W.cell? ⟨w.heap.size, 7, none⟩ = some (.slice aa la.length ca) := blk_cell g0 7
  have f0 : ∀ j, W.frozen? ⟨w.heap.size, j, none⟩ = false := blk_free g0
  have c1_0 : W.cell? ⟨w.heap.size + 1, 0, none⟩ = some (.string kkb) := blk_cell g1 0
  have c1_1 : W.cell? ⟨w.heap.size + 1, 1, none⟩ = some (.string ksb) := blk_cell g1 1
  have c1_2 : W.cell? ⟨w.heap.size + 1, 2, none⟩ = some (.string knb) := blk_cell g1 2
  have c1_3 : W.cell? ⟨w.heap.size + 1, 3, none⟩ = some (.int .i64 verb) := blk_cell g1 3
  have c1_4 : W.cell? ⟨w.heap.size + 1, 4, none⟩ = some (.string clsb) := blk_cell g1 4
  have c1_5 : W.cell? ⟨w.heap.size + 1, 5, none⟩ = some (.bool termb) := blk_cell g1 5
  have c1_6 : W.cell? ⟨w.heap.size + 1, 6, none⟩ = some (.bool bestb) := blk_cell g1 6
  have c1_7 : W.cell? ⟨w.heap.size + 1, 7, none⟩ = some (.slice ab lb.length cb') := blk_cell g1 7
  have f1 : ∀ j, W.frozen? ⟨w.heap.size + 1, j, none⟩ = false := blk_free g1
  have hB : Below W.heap.size W W := Below.refl _ _
  have G0 := Lib.hid g0; clear g0
  have F0 := Lib.hid f0; clear f0
  have G1 := Lib.hid g1; clear g1
  have F1 := Lib.hid f1; clear f1
  have Hw := Lib.hid hw; clear hw
  have HWa := Lib.hid (HA.out.below Hw.out); have HWb := Lib.hid (HB.out.below Hw.out)
  by_cases h_kk : kka = kkb
  · subst h_kk
    by_cases h_ks : ksa = ksb
    · subst h_ks
      by_cases h_kn : kna = knb
      · subst h_kn
        by_cases h_cls : clsa = clsb
        · subst h_cls
          cases terma with
          | true =>
            cases termb with
            | true =>
              cases besta with
              | true =>
                cases bestb with
                | true =>
                  have HE := Lib.hid (show alikeO a b = decide (la = lb) by rw [HAL.out]; simp)
                  go_wp2_with (go_at_call 106; refine (req_calls _ (HWa.out.below hB) (HWb.out.below hB) (by omega) (by omega)).mono ?_; rintro e w' ⟨rfl, hb⟩; have hB := bl_next hB hb; clear hb; have k0_0 := cb hB c0_0; have k0_1 := cb hB c0_1; have k0_2 := cb hB c0_2; have k0_3 := cb hB c0_3; have k0_4 := cb hB c0_4; have k0_5 := cb hB c0_5; have k0_6 := cb hB c0_6; have k0_7 := cb hB c0_7; have k1_0 := cb hB c1_0; have k1_1 := cb hB c1_1; have k1_2 := cb hB c1_2; have k1_3 := cb hB c1_3; have k1_4 := cb hB c1_4; have k1_5 := cb hB c1_5; have k1_6 := cb hB c1_6; have k1_7 := cb hB c1_7)
                  go_ret
                  exact ⟨ret_bool HE.out.symm, bl_from Hw.out hB⟩
                | false =>
                  have HE := Lib.hid (show alikeO a b = false by rw [HAL.out]; simp)
                  go_wp2_with (go_at_call 106; refine (req_calls _ (HWa.out.below hB) (HWb.out.below hB) (by omega) (by omega)).mono ?_; rintro e w' ⟨rfl, hb⟩; have hB := bl_next hB hb; clear hb; have k0_0 := cb hB c0_0; have k0_1 := cb hB c0_1; have k0_2 := cb hB c0_2; have k0_3 := cb hB c0_3; have k0_4 := cb hB c0_4; have k0_5 := cb hB c0_5; have k0_6 := cb hB c0_6; have k0_7 := cb hB c0_7; have k1_0 := cb hB c1_0; have k1_1 := cb hB c1_1; have k1_2 := cb hB c1_2; have k1_3 := cb hB c1_3; have k1_4 := cb hB c1_4; have k1_5 := cb hB c1_5; have k1_6 := cb hB c1_6; have k1_7 := cb hB c1_7)
                  go_ret
                  exact ⟨ret_bool HE.out.symm, bl_from Hw.out hB⟩
              | false =>
                cases bestb with
                | true =>
                  have HE := Lib.hid (show alikeO a b = false by rw [HAL.out]; simp)
                  go_wp2_with (go_at_call 106; refine (req_calls _ (HWa.out.below hB) (HWb.out.below hB) (by omega) (by omega)).mono ?_; rintro e w' ⟨rfl, hb⟩; have hB := bl_next hB hb; clear hb; have k0_0 := cb hB c0_0; have k0_1 := cb hB c0_1; have k0_2 := cb hB c0_2; have k0_3 := cb hB c0_3; have k0_4 := cb hB c0_4; have k0_5 := cb hB c0_5; have k0_6 := cb hB c0_6; have k0_7 := cb hB c0_7; have k1_0 := cb hB c1_0; have k1_1 := cb hB c1_1; have k1_2 := cb hB c1_2; have k1_3 := cb hB c1_3; have k1_4 := cb hB c1_4; have k1_5 := cb hB c1_5; have k1_6 := cb hB c1_6; have k1_7 := cb hB c1_7)
                  go_ret
                  exact ⟨ret_bool HE.out.symm, bl_from Hw.out hB⟩
                | false =>
                  have HE := Lib.hid (show alikeO a b = decide (la = lb) by rw [HAL.out]; simp)
                  go_wp2_with (go_at_call 106; refine (req_calls _ (HWa.out.below hB) (HWb.out.below hB) (by omega) (by omega)).mono ?_; rintro e w' ⟨rfl, hb⟩; have hB := bl_next hB hb; clear hb; have k0_0 := cb hB c0_0; have k0_1 := cb hB c0_1; have k0_2 := cb hB c0_2; have k0_3 := cb hB c0_3; have k0_4 := cb hB c0_4; have k0_5 := cb hB c0_5; have k0_6 := cb hB c0_6; have k0_7 := cb hB c0_7; have k1_0 := cb hB c1_0; have k1_1 := cb hB c1_1; have k1_2 := cb hB c1_2; have k1_3 := cb hB c1_3; have k1_4 := cb hB c1_4; have k1_5 := cb hB c1_5; have k1_6 := cb hB c1_6; have k1_7 := cb hB c1_7)
                  go_ret
                  exact ⟨ret_bool HE.out.symm, bl_from Hw.out hB⟩
            | false =>
              have HE := Lib.hid (show alikeO a b = false by rw [HAL.out]; simp)
              go_wp2_with (go_at_call 106; refine (req_calls _ (HWa.out.below hB) (HWb.out.below hB) (by omega) (by omega)).mono ?_; rintro e w' ⟨rfl, hb⟩; have hB := bl_next hB hb; clear hb; have k0_0 := cb hB c0_0; have k0_1 := cb hB c0_1; have k0_2 := cb hB c0_2; have k0_3 := cb hB c0_3; have k0_4 := cb hB c0_4; have k0_5 := cb hB c0_5; have k0_6 := cb hB c0_6; have k0_7 := cb hB c0_7; have k1_0 := cb hB c1_0; have k1_1 := cb hB c1_1; have k1_2 := cb hB c1_2; have k1_3 := cb hB c1_3; have k1_4 := cb hB c1_4; have k1_5 := cb hB c1_5; have k1_6 := cb hB c1_6; have k1_7 := cb hB c1_7)
              go_ret
              exact ⟨ret_bool HE.out.symm, bl_from Hw.out hB⟩
          | false =>
            cases termb with
            | true =>
              have HE := Lib.hid (show alikeO a b = false by rw [HAL.out]; simp)
              go_wp2_with (go_at_call 106; refine (req_calls _ (HWa.out.below hB) (HWb.out.below hB) (by omega) (by omega)).mono ?_; rintro e w' ⟨rfl, hb⟩; have hB := bl_next hB hb; clear hb; have k0_0 := cb hB c0_0; have k0_1 := cb hB c0_1; have k0_2 := cb hB c0_2; have k0_3 := cb hB c0_3; have k0_4 := cb hB c0_4; have k0_5 := cb hB c0_5; have k0_6 := cb hB c0_6; have k0_7 := cb hB c0_7; have k1_0 := cb hB c1_0; have k1_1 := cb hB c1_1; have k1_2 := cb hB c1_2; have k1_3 := cb hB c1_3; have k1_4 := cb hB c1_4; have k1_5 := cb hB c1_5; have k1_6 := cb hB c1_6; have k1_7 := cb hB c1_7)
              go_ret
              exact ⟨ret_bool HE.out.symm, bl_from Hw.out hB⟩
            | false =>
              cases besta with
              | true =>
                cases bestb with
                | true =>
                  have HE := Lib.hid (show alikeO a b = decide (la = lb) by rw [HAL.out]; simp)
                  go_wp2_with (go_at_call 106; refine (req_calls _ (HWa.out.below hB) (HWb.out.below hB) (by omega) (by omega)).mono ?_; rintro e w' ⟨rfl, hb⟩; have hB := bl_next hB hb; clear hb; have k0_0 := cb hB c0_0; have k0_1 := cb hB c0_1; have k0_2 := cb hB c0_2; have k0_3 := cb hB c0_3; have k0_4 := cb hB c0_4; have k0_5 := cb hB c0_5; have k0_6 := cb hB c0_6; have k0_7 := cb hB c0_7; have k1_0 := cb hB c1_0; have k1_1 := cb hB c1_1; have k1_2 := cb hB c1_2; have k1_3 := cb hB c1_3; have k1_4 := cb hB c1_4; have k1_5 := cb hB c1_5; have k1_6 := cb hB c1_6; have k1_7 := cb hB c1_7)
                  go_ret
                  exact ⟨ret_bool HE.out.symm, bl_from Hw.out hB⟩
                | false =>
                  have HE := Lib.hid (show alikeO a b = false by rw [HAL.out]; simp)
                  go_wp2_with (go_at_call 106; refine (req_calls _ (HWa.out.below hB) (HWb.out.below hB) (by omega) (by omega)).mono ?_; rintro e w' ⟨rfl, hb⟩; have hB := bl_next hB hb; clear hb; have k0_0 := cb hB c0_0; have k0_1 := cb hB c0_1; have k0_2 := cb hB c0_2; have k0_3 := cb hB c0_3; have k0_4 := cb hB c0_4; have k0_5 := cb hB c0_5; have k0_6 := cb hB c0_6; have k0_7 := cb hB c0_7; have k1_0 := cb hB c1_0; have k1_1 := cb hB c1_1; have k1_2 := cb hB c1_2; have k1_3 := cb hB c1_3; have k1_4 := cb hB c1_4; have k1_5 := cb hB c1_5; have k1_6 := cb hB c1_6; have k1_7 := cb hB c1_7)
                  go_ret
                  exact ⟨ret_bool HE.out.symm, bl_from Hw.out hB⟩
              | false =>
                cases bestb with
                | true =>
                  have HE := Lib.hid (show alikeO a b = false by rw [HAL.out]; simp)
                  go_wp2_with (go_at_call 106; refine (req_calls _ (HWa.out.below hB) (HWb.out.below hB) (by omega) (by omega)).mono ?_; rintro e w' ⟨rfl, hb⟩; have hB := bl_next hB hb; clear hb; have k0_0 := cb hB c0_0; have k0_1 := cb hB c0_1; have k0_2 := cb hB c0_2; have k0_3 := cb hB c0_3; have k0_4 := cb hB c0_4; have k0_5 := cb hB c0_5; have k0_6 := cb hB c0_6; have k0_7 := cb hB c0_7; have k1_0 := cb hB c1_0; have k1_1 := cb hB c1_1; have k1_2 := cb hB c1_2; have k1_3 := cb hB c1_3; have k1_4 := cb hB c1_4; have k1_5 := cb hB c1_5; have k1_6 := cb hB c1_6; have k1_7 := cb hB c1_7)
                  go_ret
                  exact ⟨ret_bool HE.out.symm, bl_from Hw.out hB⟩
                | false =>
                  have HE := Lib.hid (show alikeO a b = decide (la = lb) by rw [HAL.out]; simp)
                  go_wp2_with (go_at_call 106; refine (req_calls _ (HWa.out.below hB) (HWb.out.below hB) (by omega) (by omega)).mono ?_; rintro e w' ⟨rfl, hb⟩; have hB := bl_next hB hb; clear hb; have k0_0 := cb hB c0_0; have k0_1 := cb hB c0_1; have k0_2 := cb hB c0_2; have k0_3 := cb hB c0_3; have k0_4 := cb hB c0_4; have k0_5 := cb hB c0_5; have k0_6 := cb hB c0_6; have k0_7 := cb hB c0_7; have k1_0 := cb hB c1_0; have k1_1 := cb hB c1_1; have k1_2 := cb hB c1_2; have k1_3 := cb hB c1_3; have k1_4 := cb hB c1_4; have k1_5 := cb hB c1_5; have k1_6 := cb hB c1_6; have k1_7 := cb hB c1_7)
                  go_ret
                  exact ⟨ret_bool HE.out.symm, bl_from Hw.out hB⟩
        · have HE := Lib.hid (show alikeO a b = false by rw [HAL.out]; simp [h_cls])
          have hbf := beqF h_cls
          have hbn := neF h_cls
          clear h_cls
          go_wp2_with (go_at_call 106; refine (req_calls _ (HWa.out.below hB) (HWb.out.below hB) (by omega) (by omega)).mono ?_; rintro e w' ⟨rfl, hb⟩; have hB := bl_next hB hb; clear hb; have k0_0 := cb hB c0_0; have k0_1 := cb hB c0_1; have k0_2 := cb hB c0_2; have k0_3 := cb hB c0_3; have k0_4 := cb hB c0_4; have k0_5 := cb hB c0_5; have k0_6 := cb hB c0_6; have k0_7 := cb hB c0_7; have k1_0 := cb hB c1_0; have k1_1 := cb hB c1_1; have k1_2 := cb hB c1_2; have k1_3 := cb hB c1_3; have k1_4 := cb hB c1_4; have k1_5 := cb hB c1_5; have k1_6 := cb hB c1_6; have k1_7 := cb hB c1_7)
          go_ret
          exact ⟨ret_bool HE.out.symm, bl_from Hw.out hB⟩
      · have HE := Lib.hid (show alikeO a b = false by rw [HAL.out]; simp [h_kn])
        have hbf := beqF h_kn
        have hbn := neF h_kn
        clear h_kn
        go_wp2_with (go_at_call 106; refine (req_calls _ (HWa.out.below hB) (HWb.out.below hB) (by omega) (by omega)).mono ?_; rintro e w' ⟨rfl, hb⟩; have hB := bl_next hB hb; clear hb; have k0_0 := cb hB c0_0; have k0_1 := cb hB c0_1; have k0_2 := cb hB c0_2; have k0_3 := cb hB c0_3; have k0_4 := cb hB c0_4; have k0_5 := cb hB c0_5; have k0_6 := cb hB c0_6; have k0_7 := cb hB c0_7; have k1_0 := cb hB c1_0; have k1_1 := cb hB c1_1; have k1_2 := cb hB c1_2; have k1_3 := cb hB c1_3; have k1_4 := cb hB c1_4; have k1_5 := cb hB c1_5; have k1_6 := cb hB c1_6; have k1_7 := cb hB c1_7)
        go_ret
        exact ⟨ret_bool HE.out.symm, bl_from Hw.out hB⟩
    · have HE := Lib.hid (show alikeO a b = false by rw [HAL.out]; simp [h_ks])
      have hbf := beqF h_ks
      have hbn := neF h_ks
      clear h_ks
      go_wp2_with (go_at_call 106; refine (req_calls _ (HWa.out.below hB) (HWb.out.below hB) (by omega) (by omega)).mono ?_; rintro e w' ⟨rfl, hb⟩; have hB := bl_next hB hb; clear hb; have k0_0 := cb hB c0_0; have k0_1 := cb hB c0_1; have k0_2 := cb hB c0_2; have k0_3 := cb hB c0_3; have k0_4 := cb hB c0_4; have k0_5 := cb hB c0_5; have k0_6 := cb hB c0_6; have k0_7 := cb hB c0_7; have k1_0 := cb hB c1_0; have k1_1 := cb hB c1_1; have k1_2 := cb hB c1_2; have k1_3 := cb hB c1_3; have k1_4 := cb hB c1_4; have k1_5 := cb hB c1_5; have k1_6 := cb hB c1_6; have k1_7 := cb hB c1_7)
      go_ret
      exact ⟨ret_bool HE.out.symm, bl_from Hw.out hB⟩
  · have HE := Lib.hid (show alikeO a b = false by rw [HAL.out]; simp [h_kk])
    have hbf := beqF h_kk
    have hbn := neF h_kk
    clear h_kk
    go_wp2_with (go_at_call 106; refine (req_calls _ (HWa.out.below hB) (HWb.out.below hB) (by omega) (by omega)).mono ?_; rintro e w' ⟨rfl, hb⟩; have hB := bl_next hB hb; clear hb; have k0_0 := cb hB c0_0; have k0_1 := cb hB c0_1; have k0_2 := cb hB c0_2; have k0_3 := cb hB c0_3; have k0_4 := cb hB c0_4; have k0_5 := cb hB c0_5; have k0_6 := cb hB c0_6; have k0_7 := cb hB c0_7; have k1_0 := cb hB c1_0; have k1_1 := cb hB c1_1; have k1_2 := cb hB c1_2; have k1_3 := cb hB c1_3; have k1_4 := cb hB c1_4; have k1_5 := cb hB c1_5; have k1_6 := cb hB c1_6; have k1_7 := cb hB c1_7)
    go_ret
    exact ⟨ret_bool HE.out.symm, bl_from Hw.out hB⟩
set_option maxRecDepth 100000 in
set_option maxHeartbeats 16000000 in
theorem roalike_calls (w : World) {sa sb : Value} {a b : ObjD} (ha : ObjS w sa a) (hb : ObjS w sb b) (hl : a.charge.length ≤ 1000000 ∧ b.charge.length ≤ 1000000) :
    Calls Try.prog 65 #[objV a sa, objV b sb] w fun e w' => e = .returned (.bool (alikeO a b)) ∧ Below w.heap.size w w' := by
  have HA := Lib.hid ha.1; have HB := Lib.hid hb.1
  obtain ⟨aa, ca, rfl⟩ := ha.1.form
  obtain ⟨ab, cb', rfl⟩ := hb.1.form
  obtain ⟨hl1, hl2⟩ := hl
  obtain ⟨la, hla⟩ : ∃ l, a.charge = l := ⟨_, rfl⟩
  obtain ⟨lb, hlb⟩ : ∃ l, b.charge = l := ⟨_, rfl⟩
  obtain ⟨kka, hka⟩ : ∃ s, a.key.kind = s := ⟨_, rfl⟩
  obtain ⟨kkb, hkb⟩ : ∃ s, b.key.kind = s := ⟨_, rfl⟩
  obtain ⟨ksa, hsa⟩ : ∃ s, a.key.space = s := ⟨_, rfl⟩
  obtain ⟨ksb, hsb⟩ : ∃ s, b.key.space = s := ⟨_, rfl⟩
  obtain ⟨kna, hna⟩ : ∃ s, a.key.name = s := ⟨_, rfl⟩
  obtain ⟨knb, hnb⟩ : ∃ s, b.key.name = s := ⟨_, rfl⟩
  obtain ⟨clsa, hca⟩ : ∃ s, a.cls = s := ⟨_, rfl⟩
  obtain ⟨clsb, hcb⟩ : ∃ s, b.cls = s := ⟨_, rfl⟩
  obtain ⟨terma, hta⟩ : ∃ s, a.term = s := ⟨_, rfl⟩
  obtain ⟨termb, htb⟩ : ∃ s, b.term = s := ⟨_, rfl⟩
  obtain ⟨besta, hba⟩ : ∃ s, a.best = s := ⟨_, rfl⟩
  obtain ⟨bestb, hbb⟩ : ∃ s, b.best = s := ⟨_, rfl⟩
  obtain ⟨vera, hva⟩ : ∃ s, a.ver = s := ⟨_, rfl⟩
  obtain ⟨verb, hvb⟩ : ∃ s, b.ver = s := ⟨_, rfl⟩
  have HAL : Hid (alikeO a b = (decide (kka = kkb) && decide (ksa = ksb) && decide (kna = knb) && decide (clsa = clsb) && (terma == termb) && (besta == bestb) && decide (la = lb))) := Lib.hid (by unfold alikeO; rw [hla, hlb, hka, hkb, hsa, hsb, hna, hnb, hca, hcb, hta, htb, hba, hbb])
  unfold objV
  rw [hla] at HA hl1
  rw [hlb] at HB hl2
  rw [hla, hlb, hka, hkb, hsa, hsb, hna, hnb, hca, hcb, hta, htb, hba, hbb, hva, hvb]
  clear ha hb hla hlb hka hkb hsa hsb hna hnb hca hcb hta htb hba hbb hva hvb
  go_enter Try.func65, Try.ntmps65
  go_upto_region 1 with fail
  first | with_reducible refine name_wp ?_ | with_reducible refine name_calls ?_
  intro W hWeq
  have g0 : W.heap[w.heap.size]? = some (.cells #[.string kka, .string ksa, .string kna, .int .i64 vera, .string clsa, .bool terma, .bool besta, .slice aa la.length ca] 27) := by rw [hWeq]; repeat (first | (with_reducible exact blk_newAt _ _ (by simp)) | with_reducible refine blk_drew ?_ | with_reducible refine blk_dN ?_ _ | with_reducible refine blk_old ?_ _)
  have g1 : W.heap[w.heap.size + 1]? = some (.cells #[.string kkb, .string ksb, .string knb, .int .i64 verb, .string clsb, .bool termb, .bool bestb, .slice ab lb.length cb'] 27) := by rw [hWeq]; repeat (first | (with_reducible exact blk_newAt _ _ (by simp)) | with_reducible refine blk_drew ?_ | with_reducible refine blk_dN ?_ _ | with_reducible refine blk_old ?_ _)
  have hw : Below w.heap.size w W := by rw [hWeq]; repeat (first | with_reducible exact Below.refl _ _ | with_reducible refine Below.drew ?_ | with_reducible refine bl_dN ?_ _ | with_reducible refine Below.alloc ?_ (by simp <;> omega) _)
  clear hWeq
  have hz : w.heap.size + 2 ≤ W.heap.size := by have := blk_lt g1; omega
  have c0_0 : W.cell? ⟨w.heap.size, 0, none⟩ = some (.string kka) := blk_cell g0 0
  have c0_1 : W.cell? ⟨w.heap.size, 1, none⟩ = some (.string ksa) := blk_cell g0 1
  have c0_2 : W.cell? ⟨w.heap.size, 2, none⟩ = some (.string kna) := blk_cell g0 2
  have c0_3 : W.cell? ⟨w.heap.size, 3, none⟩ = some (.int .i64 vera) := blk_cell g0 3
  have c0_4 : W.cell? ⟨w.heap.size, 4, none⟩ = some (.string clsa) := blk_cell g0 4
  have c0_5 : W.cell? ⟨w.heap.size, 5, none⟩ = some (.bool terma) := blk_cell g0 5
  have c0_6 : W.cell? ⟨w.heap.size, 6, none⟩ = some (.bool besta) := blk_cell g0 6
  have c0_7 : W.cell? ⟨w.heap.size, 7, none⟩ = some (.slice aa la.length ca) := blk_cell g0 7
  have f0 : ∀ j, W.frozen? ⟨w.heap.size, j, none⟩ = false := blk_free g0
  have c1_0 : W.cell? ⟨w.heap.size + 1, 0, none⟩ = some (.string kkb) := blk_cell g1 0
  have c1_1 : W.cell? ⟨w.heap.size + 1, 1, none⟩ = some (.string ksb) := blk_cell g1 1
  have c1_2 : W.cell? ⟨w.heap.size + 1, 2, none⟩ = some (.string knb) := blk_cell g1 2
  have c1_3 : W.cell? ⟨w.heap.size + 1, 3, none⟩ = some (.int .i64 verb) := blk_cell g1 3
  have c1_4 : W.cell? ⟨w.heap.size + 1, 4, none⟩ = some (.string clsb) := blk_cell g1 4
  have c1_5 : W.cell? ⟨w.heap.size + 1, 5, none⟩ = some (.bool termb) := blk_cell g1 5
  have c1_6 : W.cell? ⟨w.heap.size + 1, 6, none⟩ = some (.bool bestb) := blk_cell g1 6
  have c1_7 : W.cell? ⟨w.heap.size + 1, 7, none⟩ = some (.slice ab lb.length cb') := blk_cell g1 7
  have f1 : ∀ j, W.frozen? ⟨w.heap.size + 1, j, none⟩ = false := blk_free g1
  have hB : Below W.heap.size W W := Below.refl _ _
  have G0 := Lib.hid g0; clear g0
  have F0 := Lib.hid f0; clear f0
  have G1 := Lib.hid g1; clear g1
  have F1 := Lib.hid f1; clear f1
  have Hw := Lib.hid hw; clear hw
  have HWa := Lib.hid (HA.out.below Hw.out); have HWb := Lib.hid (HB.out.below Hw.out)
  by_cases hch : la = lb
  · have HCH := Lib.hid (show decide (la = lb) = true from decide_eq_true hch)
    clear hch
    by_cases h_kk : kka = kkb
    · subst h_kk
      by_cases h_ks : ksa = ksb
      · subst h_ks
        by_cases h_kn : kna = knb
        · subst h_kn
          by_cases h_cls : clsa = clsb
          · subst h_cls
            cases terma with
            | true =>
              cases termb with
              | true =>
                cases besta with
                | true =>
                  cases bestb with
                  | true =>
                    have HE := Lib.hid (show alikeO a b = true by rw [HAL.out, HCH.out]; simp)
                    go_wp2_with (go_at_call 88; refine (rres_calls _ (HWa.out.below hB) (HWb.out.below hB) (by omega) (by omega)).mono ?_; rintro e w' ⟨rfl, hb⟩; rw [HCH.out]; have hB := bl_next hB hb; clear hb; have k0_0 := cb hB c0_0; have k0_1 := cb hB c0_1; have k0_2 := cb hB c0_2; have k0_3 := cb hB c0_3; have k0_4 := cb hB c0_4; have k0_5 := cb hB c0_5; have k0_6 := cb hB c0_6; have k0_7 := cb hB c0_7; have k1_0 := cb hB c1_0; have k1_1 := cb hB c1_1; have k1_2 := cb hB c1_2; have k1_3 := cb hB c1_3; have k1_4 := cb hB c1_4; have k1_5 := cb hB c1_5; have k1_6 := cb hB c1_6; have k1_7 := cb hB c1_7)
                    go_ret
                    exact ⟨ret_bool HE.out.symm, bl_from Hw.out hB⟩
                  | false =>
                    have HE := Lib.hid (show alikeO a b = false by rw [HAL.out]; simp)
                    go_wp2_with (go_at_call 88; refine (rres_calls _ (HWa.out.below hB) (HWb.out.below hB) (by omega) (by omega)).mono ?_; rintro e w' ⟨rfl, hb⟩; rw [HCH.out]; have hB := bl_next hB hb; clear hb; have k0_0 := cb hB c0_0; have k0_1 := cb hB c0_1; have k0_2 := cb hB c0_2; have k0_3 := cb hB c0_3; have k0_4 := cb hB c0_4; have k0_5 := cb hB c0_5; have k0_6 := cb hB c0_6; have k0_7 := cb hB c0_7; have k1_0 := cb hB c1_0; have k1_1 := cb hB c1_1; have k1_2 := cb hB c1_2; have k1_3 := cb hB c1_3; have k1_4 := cb hB c1_4; have k1_5 := cb hB c1_5; have k1_6 := cb hB c1_6; have k1_7 := cb hB c1_7)
                    go_ret
                    exact ⟨ret_bool HE.out.symm, bl_from Hw.out hB⟩
                | false =>
                  cases bestb with
                  | true =>
                    have HE := Lib.hid (show alikeO a b = false by rw [HAL.out]; simp)
                    go_wp2_with (go_at_call 88; refine (rres_calls _ (HWa.out.below hB) (HWb.out.below hB) (by omega) (by omega)).mono ?_; rintro e w' ⟨rfl, hb⟩; rw [HCH.out]; have hB := bl_next hB hb; clear hb; have k0_0 := cb hB c0_0; have k0_1 := cb hB c0_1; have k0_2 := cb hB c0_2; have k0_3 := cb hB c0_3; have k0_4 := cb hB c0_4; have k0_5 := cb hB c0_5; have k0_6 := cb hB c0_6; have k0_7 := cb hB c0_7; have k1_0 := cb hB c1_0; have k1_1 := cb hB c1_1; have k1_2 := cb hB c1_2; have k1_3 := cb hB c1_3; have k1_4 := cb hB c1_4; have k1_5 := cb hB c1_5; have k1_6 := cb hB c1_6; have k1_7 := cb hB c1_7)
                    go_ret
                    exact ⟨ret_bool HE.out.symm, bl_from Hw.out hB⟩
                  | false =>
                    have HE := Lib.hid (show alikeO a b = true by rw [HAL.out, HCH.out]; simp)
                    go_wp2_with (go_at_call 88; refine (rres_calls _ (HWa.out.below hB) (HWb.out.below hB) (by omega) (by omega)).mono ?_; rintro e w' ⟨rfl, hb⟩; rw [HCH.out]; have hB := bl_next hB hb; clear hb; have k0_0 := cb hB c0_0; have k0_1 := cb hB c0_1; have k0_2 := cb hB c0_2; have k0_3 := cb hB c0_3; have k0_4 := cb hB c0_4; have k0_5 := cb hB c0_5; have k0_6 := cb hB c0_6; have k0_7 := cb hB c0_7; have k1_0 := cb hB c1_0; have k1_1 := cb hB c1_1; have k1_2 := cb hB c1_2; have k1_3 := cb hB c1_3; have k1_4 := cb hB c1_4; have k1_5 := cb hB c1_5; have k1_6 := cb hB c1_6; have k1_7 := cb hB c1_7)
                    go_ret
                    exact ⟨ret_bool HE.out.symm, bl_from Hw.out hB⟩
              | false =>
                have HE := Lib.hid (show alikeO a b = false by rw [HAL.out]; simp)
                go_wp2_with (go_at_call 88; refine (rres_calls _ (HWa.out.below hB) (HWb.out.below hB) (by omega) (by omega)).mono ?_; rintro e w' ⟨rfl, hb⟩; rw [HCH.out]; have hB := bl_next hB hb; clear hb; have k0_0 := cb hB c0_0; have k0_1 := cb hB c0_1; have k0_2 := cb hB c0_2; have k0_3 := cb hB c0_3; have k0_4 := cb hB c0_4; have k0_5 := cb hB c0_5; have k0_6 := cb hB c0_6; have k0_7 := cb hB c0_7; have k1_0 := cb hB c1_0; have k1_1 := cb hB c1_1; have k1_2 := cb hB c1_2; have k1_3 := cb hB c1_3; have k1_4 := cb hB c1_4; have k1_5 := cb hB c1_5; have k1_6 := cb hB c1_6; have k1_7 := cb hB c1_7)
                go_ret
                exact ⟨ret_bool HE.out.symm, bl_from Hw.out hB⟩
            | false =>
              cases termb with
              | true =>
                have HE := Lib.hid (show alikeO a b = false by rw [HAL.out]; simp)
                go_wp2_with (go_at_call 88; refine (rres_calls _ (HWa.out.below hB) (HWb.out.below hB) (by omega) (by omega)).mono ?_; rintro e w' ⟨rfl, hb⟩; rw [HCH.out]; have hB := bl_next hB hb; clear hb; have k0_0 := cb hB c0_0; have k0_1 := cb hB c0_1; have k0_2 := cb hB c0_2; have k0_3 := cb hB c0_3; have k0_4 := cb hB c0_4; have k0_5 := cb hB c0_5; have k0_6 := cb hB c0_6; have k0_7 := cb hB c0_7; have k1_0 := cb hB c1_0; have k1_1 := cb hB c1_1; have k1_2 := cb hB c1_2; have k1_3 := cb hB c1_3; have k1_4 := cb hB c1_4; have k1_5 := cb hB c1_5; have k1_6 := cb hB c1_6; have k1_7 := cb hB c1_7)
                go_ret
                exact ⟨ret_bool HE.out.symm, bl_from Hw.out hB⟩
              | false =>
                cases besta with
                | true =>
                  cases bestb with
                  | true =>
                    have HE := Lib.hid (show alikeO a b = true by rw [HAL.out, HCH.out]; simp)
                    go_wp2_with (go_at_call 88; refine (rres_calls _ (HWa.out.below hB) (HWb.out.below hB) (by omega) (by omega)).mono ?_; rintro e w' ⟨rfl, hb⟩; rw [HCH.out]; have hB := bl_next hB hb; clear hb; have k0_0 := cb hB c0_0; have k0_1 := cb hB c0_1; have k0_2 := cb hB c0_2; have k0_3 := cb hB c0_3; have k0_4 := cb hB c0_4; have k0_5 := cb hB c0_5; have k0_6 := cb hB c0_6; have k0_7 := cb hB c0_7; have k1_0 := cb hB c1_0; have k1_1 := cb hB c1_1; have k1_2 := cb hB c1_2; have k1_3 := cb hB c1_3; have k1_4 := cb hB c1_4; have k1_5 := cb hB c1_5; have k1_6 := cb hB c1_6; have k1_7 := cb hB c1_7)
                    go_ret
                    exact ⟨ret_bool HE.out.symm, bl_from Hw.out hB⟩
                  | false =>
                    have HE := Lib.hid (show alikeO a b = false by rw [HAL.out]; simp)
                    go_wp2_with (go_at_call 88; refine (rres_calls _ (HWa.out.below hB) (HWb.out.below hB) (by omega) (by omega)).mono ?_; rintro e w' ⟨rfl, hb⟩; rw [HCH.out]; have hB := bl_next hB hb; clear hb; have k0_0 := cb hB c0_0; have k0_1 := cb hB c0_1; have k0_2 := cb hB c0_2; have k0_3 := cb hB c0_3; have k0_4 := cb hB c0_4; have k0_5 := cb hB c0_5; have k0_6 := cb hB c0_6; have k0_7 := cb hB c0_7; have k1_0 := cb hB c1_0; have k1_1 := cb hB c1_1; have k1_2 := cb hB c1_2; have k1_3 := cb hB c1_3; have k1_4 := cb hB c1_4; have k1_5 := cb hB c1_5; have k1_6 := cb hB c1_6; have k1_7 := cb hB c1_7)
                    go_ret
                    exact ⟨ret_bool HE.out.symm, bl_from Hw.out hB⟩
                | false =>
                  cases bestb with
                  | true =>
                    have HE := Lib.hid (show alikeO a b = false by rw [HAL.out]; simp)
                    go_wp2_with (go_at_call 88; refine (rres_calls _ (HWa.out.below hB) (HWb.out.below hB) (by omega) (by omega)).mono ?_; rintro e w' ⟨rfl, hb⟩; rw [HCH.out]; have hB := bl_next hB hb; clear hb; have k0_0 := cb hB c0_0; have k0_1 := cb hB c0_1; have k0_2 := cb hB c0_2; have k0_3 := cb hB c0_3; have k0_4 := cb hB c0_4; have k0_5 := cb hB c0_5; have k0_6 := cb hB c0_6; have k0_7 := cb hB c0_7; have k1_0 := cb hB c1_0; have k1_1 := cb hB c1_1; have k1_2 := cb hB c1_2; have k1_3 := cb hB c1_3; have k1_4 := cb hB c1_4; have k1_5 := cb hB c1_5; have k1_6 := cb hB c1_6; have k1_7 := cb hB c1_7)
                    go_ret
                    exact ⟨ret_bool HE.out.symm, bl_from Hw.out hB⟩
                  | false =>
                    have HE := Lib.hid (show alikeO a b = true by rw [HAL.out, HCH.out]; simp)
                    go_wp2_with (go_at_call 88; refine (rres_calls _ (HWa.out.below hB) (HWb.out.below hB) (by omega) (by omega)).mono ?_; rintro e w' ⟨rfl, hb⟩; rw [HCH.out]; have hB := bl_next hB hb; clear hb; have k0_0 := cb hB c0_0; have k0_1 := cb hB c0_1; have k0_2 := cb hB c0_2; have k0_3 := cb hB c0_3; have k0_4 := cb hB c0_4; have k0_5 := cb hB c0_5; have k0_6 := cb hB c0_6; have k0_7 := cb hB c0_7; have k1_0 := cb hB c1_0; have k1_1 := cb hB c1_1; have k1_2 := cb hB c1_2; have k1_3 := cb hB c1_3; have k1_4 := cb hB c1_4; have k1_5 := cb hB c1_5; have k1_6 := cb hB c1_6; have k1_7 := cb hB c1_7)
                    go_ret
                    exact ⟨ret_bool HE.out.symm, bl_from Hw.out hB⟩
          · have HE := Lib.hid (show alikeO a b = false by rw [HAL.out]; simp [h_cls])
            have hbf := beqF h_cls
            have hbn := neF h_cls
            clear h_cls
            go_wp2_with (go_at_call 88; refine (rres_calls _ (HWa.out.below hB) (HWb.out.below hB) (by omega) (by omega)).mono ?_; rintro e w' ⟨rfl, hb⟩; rw [HCH.out]; have hB := bl_next hB hb; clear hb; have k0_0 := cb hB c0_0; have k0_1 := cb hB c0_1; have k0_2 := cb hB c0_2; have k0_3 := cb hB c0_3; have k0_4 := cb hB c0_4; have k0_5 := cb hB c0_5; have k0_6 := cb hB c0_6; have k0_7 := cb hB c0_7; have k1_0 := cb hB c1_0; have k1_1 := cb hB c1_1; have k1_2 := cb hB c1_2; have k1_3 := cb hB c1_3; have k1_4 := cb hB c1_4; have k1_5 := cb hB c1_5; have k1_6 := cb hB c1_6; have k1_7 := cb hB c1_7)
            go_ret
            exact ⟨ret_bool HE.out.symm, bl_from Hw.out hB⟩
        · have HE := Lib.hid (show alikeO a b = false by rw [HAL.out]; simp [h_kn])
          have hbf := beqF h_kn
          have hbn := neF h_kn
          clear h_kn
          go_wp2_with (go_at_call 88; refine (rres_calls _ (HWa.out.below hB) (HWb.out.below hB) (by omega) (by omega)).mono ?_; rintro e w' ⟨rfl, hb⟩; rw [HCH.out]; have hB := bl_next hB hb; clear hb; have k0_0 := cb hB c0_0; have k0_1 := cb hB c0_1; have k0_2 := cb hB c0_2; have k0_3 := cb hB c0_3; have k0_4 := cb hB c0_4; have k0_5 := cb hB c0_5; have k0_6 := cb hB c0_6; have k0_7 := cb hB c0_7; have k1_0 := cb hB c1_0; have k1_1 := cb hB c1_1; have k1_2 := cb hB c1_2; have k1_3 := cb hB c1_3; have k1_4 := cb hB c1_4; have k1_5 := cb hB c1_5; have k1_6 := cb hB c1_6; have k1_7 := cb hB c1_7)
          go_ret
          exact ⟨ret_bool HE.out.symm, bl_from Hw.out hB⟩
      · have HE := Lib.hid (show alikeO a b = false by rw [HAL.out]; simp [h_ks])
        have hbf := beqF h_ks
        have hbn := neF h_ks
        clear h_ks
        go_wp2_with (go_at_call 88; refine (rres_calls _ (HWa.out.below hB) (HWb.out.below hB) (by omega) (by omega)).mono ?_; rintro e w' ⟨rfl, hb⟩; rw [HCH.out]; have hB := bl_next hB hb; clear hb; have k0_0 := cb hB c0_0; have k0_1 := cb hB c0_1; have k0_2 := cb hB c0_2; have k0_3 := cb hB c0_3; have k0_4 := cb hB c0_4; have k0_5 := cb hB c0_5; have k0_6 := cb hB c0_6; have k0_7 := cb hB c0_7; have k1_0 := cb hB c1_0; have k1_1 := cb hB c1_1; have k1_2 := cb hB c1_2; have k1_3 := cb hB c1_3; have k1_4 := cb hB c1_4; have k1_5 := cb hB c1_5; have k1_6 := cb hB c1_6; have k1_7 := cb hB c1_7)
        go_ret
        exact ⟨ret_bool HE.out.symm, bl_from Hw.out hB⟩
    · have HE := Lib.hid (show alikeO a b = false by rw [HAL.out]; simp [h_kk])
      have hbf := beqF h_kk
      have hbn := neF h_kk
      clear h_kk
      go_wp2_with (go_at_call 88; refine (rres_calls _ (HWa.out.below hB) (HWb.out.below hB) (by omega) (by omega)).mono ?_; rintro e w' ⟨rfl, hb⟩; rw [HCH.out]; have hB := bl_next hB hb; clear hb; have k0_0 := cb hB c0_0; have k0_1 := cb hB c0_1; have k0_2 := cb hB c0_2; have k0_3 := cb hB c0_3; have k0_4 := cb hB c0_4; have k0_5 := cb hB c0_5; have k0_6 := cb hB c0_6; have k0_7 := cb hB c0_7; have k1_0 := cb hB c1_0; have k1_1 := cb hB c1_1; have k1_2 := cb hB c1_2; have k1_3 := cb hB c1_3; have k1_4 := cb hB c1_4; have k1_5 := cb hB c1_5; have k1_6 := cb hB c1_6; have k1_7 := cb hB c1_7)
      go_ret
      exact ⟨ret_bool HE.out.symm, bl_from Hw.out hB⟩
  · have HCH := Lib.hid (show decide (la = lb) = false from decide_eq_false hch)
    have HE := Lib.hid (show alikeO a b = false by rw [HAL.out, HCH.out]; simp)
    clear hch
    go_wp2_with (go_at_call 88; refine (rres_calls _ (HWa.out.below hB) (HWb.out.below hB) (by omega) (by omega)).mono ?_; rintro e w' ⟨rfl, hb⟩; rw [HCH.out]; have hB := bl_next hB hb; clear hb; have k0_0 := cb hB c0_0; have k0_1 := cb hB c0_1; have k0_2 := cb hB c0_2; have k0_3 := cb hB c0_3; have k0_4 := cb hB c0_4; have k0_5 := cb hB c0_5; have k0_6 := cb hB c0_6; have k0_7 := cb hB c0_7; have k1_0 := cb hB c1_0; have k1_1 := cb hB c1_1; have k1_2 := cb hB c1_2; have k1_3 := cb hB c1_3; have k1_4 := cb hB c1_4; have k1_5 := cb hB c1_5; have k1_6 := cb hB c1_6; have k1_7 := cb hB c1_7)
    go_ret
    exact ⟨ret_bool HE.out.symm, bl_from Hw.out hB⟩
set_option maxRecDepth 100000 in
set_option maxHeartbeats 8000000 in
theorem osame_calls (w : World) {sa sb : Value} {a b : ObjD} (ha : ObjS w sa a) (hb : ObjS w sb b) (hl : a.charge.length ≤ 1000000 ∧ b.charge.length ≤ 1000000) :
    Calls Try.prog 63 #[objV a sa, objV b sb] w fun e w' => e = .returned (.bool (sameO a b)) ∧ Below w.heap.size w w' := by
  have HA := Lib.hid ha; have HB := Lib.hid hb
  have HAL := Lib.hid (fun (W : World) (h : Below w.heap.size w W) => oalike_calls W (ha.below h) (hb.below h) hl)
  obtain ⟨aa, ca, rfl⟩ := ha.1.form
  obtain ⟨ab, cb', rfl⟩ := hb.1.form
  clear ha hb hl
  unfold objV at HAL
  unfold objV
  go_enter Try.func63, Try.ntmps63
  go_upto_region 1 with fail
  first | with_reducible refine name_wp ?_ | with_reducible refine name_calls ?_
  intro W hWeq
  have g0 : W.heap[w.heap.size]? = some (.cells #[.string a.key.kind, .string a.key.space, .string a.key.name, .int .i64 a.ver, .string a.cls, .bool a.term, .bool a.best, .slice aa a.charge.length ca] 27) := by rw [hWeq]; repeat (first | (with_reducible exact blk_newAt _ _ (by simp)) | with_reducible refine blk_drew ?_ | with_reducible refine blk_dN ?_ _ | with_reducible refine blk_old ?_ _)
  have g1 : W.heap[w.heap.size + 1]? = some (.cells #[.string b.key.kind, .string b.key.space, .string b.key.name, .int .i64 b.ver, .string b.cls, .bool b.term, .bool b.best, .slice ab b.charge.length cb'] 27) := by rw [hWeq]; repeat (first | (with_reducible exact blk_newAt _ _ (by simp)) | with_reducible refine blk_drew ?_ | with_reducible refine blk_dN ?_ _ | with_reducible refine blk_old ?_ _)
  have hw : Below w.heap.size w W := by rw [hWeq]; repeat (first | with_reducible exact Below.refl _ _ | with_reducible refine Below.drew ?_ | with_reducible refine bl_dN ?_ _ | with_reducible refine Below.alloc ?_ (by simp <;> omega) _)
  clear hWeq
  have hz : w.heap.size + 2 ≤ W.heap.size := by have := blk_lt g1; omega
  have c0_0 : W.cell? ⟨w.heap.size, 0, none⟩ = some (.string a.key.kind) := blk_cell g0 0
  have c0_1 : W.cell? ⟨w.heap.size, 1, none⟩ = some (.string a.key.space) := blk_cell g0 1
  have c0_2 : W.cell? ⟨w.heap.size, 2, none⟩ = some (.string a.key.name) := blk_cell g0 2
  have c0_3 : W.cell? ⟨w.heap.size, 3, none⟩ = some (.int .i64 a.ver) := blk_cell g0 3
  have c0_4 : W.cell? ⟨w.heap.size, 4, none⟩ = some (.string a.cls) := blk_cell g0 4
  have c0_5 : W.cell? ⟨w.heap.size, 5, none⟩ = some (.bool a.term) := blk_cell g0 5
  have c0_6 : W.cell? ⟨w.heap.size, 6, none⟩ = some (.bool a.best) := blk_cell g0 6
  have c0_7 : W.cell? ⟨w.heap.size, 7, none⟩ = some (.slice aa a.charge.length ca) := blk_cell g0 7
  have f0 : ∀ j, W.frozen? ⟨w.heap.size, j, none⟩ = false := blk_free g0
  have c1_0 : W.cell? ⟨w.heap.size + 1, 0, none⟩ = some (.string b.key.kind) := blk_cell g1 0
  have c1_1 : W.cell? ⟨w.heap.size + 1, 1, none⟩ = some (.string b.key.space) := blk_cell g1 1
  have c1_2 : W.cell? ⟨w.heap.size + 1, 2, none⟩ = some (.string b.key.name) := blk_cell g1 2
  have c1_3 : W.cell? ⟨w.heap.size + 1, 3, none⟩ = some (.int .i64 b.ver) := blk_cell g1 3
  have c1_4 : W.cell? ⟨w.heap.size + 1, 4, none⟩ = some (.string b.cls) := blk_cell g1 4
  have c1_5 : W.cell? ⟨w.heap.size + 1, 5, none⟩ = some (.bool b.term) := blk_cell g1 5
  have c1_6 : W.cell? ⟨w.heap.size + 1, 6, none⟩ = some (.bool b.best) := blk_cell g1 6
  have c1_7 : W.cell? ⟨w.heap.size + 1, 7, none⟩ = some (.slice ab b.charge.length cb') := blk_cell g1 7
  have f1 : ∀ j, W.frozen? ⟨w.heap.size + 1, j, none⟩ = false := blk_free g1
  have hB : Below W.heap.size W W := Below.refl _ _
  have G0 := Lib.hid g0; clear g0
  have F0 := Lib.hid f0; clear f0
  have G1 := Lib.hid g1; clear g1
  have F1 := Lib.hid f1; clear f1
  have Hw := Lib.hid hw; clear hw
  have HS : Hid (sameO a b = (alikeO a b && decide (a.ver = b.ver))) := Lib.hid rfl
  obtain ⟨al, hal⟩ : ∃ x, alikeO a b = x := ⟨_, rfl⟩
  have HALE := Lib.hid hal
  rw [hal] at HS
  clear hal
  cases al with
  | false =>
    go_wp2_with (go_at_call 87; refine (HAL.out _ Hw.out).mono ?_; rintro e w' ⟨rfl, hb⟩; rw [HALE.out]; have hB := bl_next hB hb; clear hb)
    go_ret
    exact ⟨ret_bool (by rw [HS.out]; rfl), bl_from Hw.out hB⟩
  | true =>
    go_wp2_with (go_at_call 87; refine (HAL.out _ Hw.out).mono ?_; rintro e w' ⟨rfl, hb⟩; rw [HALE.out]; have hB := bl_next hB hb; have k0 := cb hb c0_3; have k1 := cb hb c1_3; clear hb)
    go_ret
    exact ⟨ret_bool (by rw [HS.out]; first | rfl | (simp; done) | (rw [Bool.true_and]; exact (beq_eq_decide _ _)) | (rw [Bool.true_and]; exact (beq_eq_decide _ _).symm)), bl_from Hw.out hB⟩
set_option maxRecDepth 100000 in
set_option maxHeartbeats 8000000 in
theorem rosame_calls (w : World) {sa sb : Value} {a b : ObjD} (ha : ObjS w sa a) (hb : ObjS w sb b) (hl : a.charge.length ≤ 1000000 ∧ b.charge.length ≤ 1000000) :
    Calls Try.prog 24 #[objV a sa, objV b sb] w fun e w' => e = .returned (.bool (sameO a b)) ∧ Below w.heap.size w w' := by
  have HA := Lib.hid ha; have HB := Lib.hid hb
  have HAL := Lib.hid (fun (W : World) (h : Below w.heap.size w W) => roalike_calls W (ha.below h) (hb.below h) hl)
  obtain ⟨aa, ca, rfl⟩ := ha.1.form
  obtain ⟨ab, cb', rfl⟩ := hb.1.form
  clear ha hb hl
  unfold objV at HAL
  unfold objV
  go_enter Try.func24, Try.ntmps24
  go_upto_region 1 with fail
  first | with_reducible refine name_wp ?_ | with_reducible refine name_calls ?_
  intro W hWeq
  have g0 : W.heap[w.heap.size]? = some (.cells #[.string a.key.kind, .string a.key.space, .string a.key.name, .int .i64 a.ver, .string a.cls, .bool a.term, .bool a.best, .slice aa a.charge.length ca] 27) := by rw [hWeq]; repeat (first | (with_reducible exact blk_newAt _ _ (by simp)) | with_reducible refine blk_drew ?_ | with_reducible refine blk_dN ?_ _ | with_reducible refine blk_old ?_ _)
  have g1 : W.heap[w.heap.size + 1]? = some (.cells #[.string b.key.kind, .string b.key.space, .string b.key.name, .int .i64 b.ver, .string b.cls, .bool b.term, .bool b.best, .slice ab b.charge.length cb'] 27) := by rw [hWeq]; repeat (first | (with_reducible exact blk_newAt _ _ (by simp)) | with_reducible refine blk_drew ?_ | with_reducible refine blk_dN ?_ _ | with_reducible refine blk_old ?_ _)
  have hw : Below w.heap.size w W := by rw [hWeq]; repeat (first | with_reducible exact Below.refl _ _ | with_reducible refine Below.drew ?_ | with_reducible refine bl_dN ?_ _ | with_reducible refine Below.alloc ?_ (by simp <;> omega) _)
  clear hWeq
  have hz : w.heap.size + 2 ≤ W.heap.size := by have := blk_lt g1; omega
  have c0_0 : W.cell? ⟨w.heap.size, 0, none⟩ = some (.string a.key.kind) := blk_cell g0 0
  have c0_1 : W.cell? ⟨w.heap.size, 1, none⟩ = some (.string a.key.space) := blk_cell g0 1
  have c0_2 : W.cell? ⟨w.heap.size, 2, none⟩ = some (.string a.key.name) := blk_cell g0 2
  have c0_3 : W.cell? ⟨w.heap.size, 3, none⟩ = some (.int .i64 a.ver) := blk_cell g0 3
  have c0_4 : W.cell? ⟨w.heap.size, 4, none⟩ = some (.string a.cls) := blk_cell g0 4
  have c0_5 : W.cell? ⟨w.heap.size, 5, none⟩ = some (.bool a.term) := blk_cell g0 5
  have c0_6 : W.cell? ⟨w.heap.size, 6, none⟩ = some (.bool a.best) := blk_cell g0 6
  have c0_7 : W.cell? ⟨w.heap.size, 7, none⟩ = some (.slice aa a.charge.length ca) := blk_cell g0 7
  have f0 : ∀ j, W.frozen? ⟨w.heap.size, j, none⟩ = false := blk_free g0
  have c1_0 : W.cell? ⟨w.heap.size + 1, 0, none⟩ = some (.string b.key.kind) := blk_cell g1 0
  have c1_1 : W.cell? ⟨w.heap.size + 1, 1, none⟩ = some (.string b.key.space) := blk_cell g1 1
  have c1_2 : W.cell? ⟨w.heap.size + 1, 2, none⟩ = some (.string b.key.name) := blk_cell g1 2
  have c1_3 : W.cell? ⟨w.heap.size + 1, 3, none⟩ = some (.int .i64 b.ver) := blk_cell g1 3
  have c1_4 : W.cell? ⟨w.heap.size + 1, 4, none⟩ = some (.string b.cls) := blk_cell g1 4
  have c1_5 : W.cell? ⟨w.heap.size + 1, 5, none⟩ = some (.bool b.term) := blk_cell g1 5
  have c1_6 : W.cell? ⟨w.heap.size + 1, 6, none⟩ = some (.bool b.best) := blk_cell g1 6
  have c1_7 : W.cell? ⟨w.heap.size + 1, 7, none⟩ = some (.slice ab b.charge.length cb') := blk_cell g1 7
  have f1 : ∀ j, W.frozen? ⟨w.heap.size + 1, j, none⟩ = false := blk_free g1
  have hB : Below W.heap.size W W := Below.refl _ _
  have G0 := Lib.hid g0; clear g0
  have F0 := Lib.hid f0; clear f0
  have G1 := Lib.hid g1; clear g1
  have F1 := Lib.hid f1; clear f1
  have Hw := Lib.hid hw; clear hw
  have HS : Hid (sameO a b = (alikeO a b && decide (a.ver = b.ver))) := Lib.hid rfl
  obtain ⟨al, hal⟩ : ∃ x, alikeO a b = x := ⟨_, rfl⟩
  have HALE := Lib.hid hal
  rw [hal] at HS
  clear hal
  cases al with
  | false =>
    go_wp2_with (go_at_call 65; refine (HAL.out _ Hw.out).mono ?_; rintro e w' ⟨rfl, hb⟩; rw [HALE.out]; have hB := bl_next hB hb; clear hb)
    go_ret
    exact ⟨ret_bool (by rw [HS.out]; rfl), bl_from Hw.out hB⟩
  | true =>
    go_wp2_with (go_at_call 65; refine (HAL.out _ Hw.out).mono ?_; rintro e w' ⟨rfl, hb⟩; rw [HALE.out]; have hB := bl_next hB hb; have k0 := cb hb c0_3; have k1 := cb hb c1_3; clear hb)
    go_ret
    exact ⟨ret_bool (by rw [HS.out]; first | rfl | (simp; done) | (rw [Bool.true_and]; exact (beq_eq_decide _ _)) | (rw [Bool.true_and]; exact (beq_eq_decide _ _).symm)), bl_from Hw.out hB⟩
end Go.Proofs.Ythhfcambdmdgfaa
namespace Go.Proofs.Ythhfcambdmdgfaa
open Go.RowKit
/-- How data of a kind lie in cells: all that is read lies in blocks that are ok. -/
structure Kd (α : Type) where
  sz : Nat
  K : World → (Nat → Prop) → α → List Value → Prop
  len : ∀ {w ok x cs}, K w ok x cs → cs.length = sz
  bound : ∀ {w : World} {ok x cs}, K w ok x cs → K w (fun k => ok k ∧ k < w.heap.size) x cs
  move : ∀ {w w1 : World} {ok x cs}, (∀ k, ok k → w1.heap[k]? = w.heap[k]?) → K w ok x cs → K w1 ok x cs
  mono : ∀ {w ok ok' x cs}, (∀ k, ok k → ok' k) → K w ok x cs → K w ok' x cs
def anyB : Nat → Prop := fun _ => True
namespace Kd
variable {α : Type} {d : Kd α} {w w1 : World} {ok ok' : Nat → Prop} {x : α} {cs : List Value}
theorem step (h : d.K w ok x cs) (hm : ∀ k, ok k → k < w.heap.size → w1.heap[k]? = w.heap[k]?) : d.K w1 ok x cs :=
  d.mono (fun _ hk => hk.1) (d.move (fun k hk => hm k hk.1 hk.2) (d.bound h))
theorem below (h : d.K w ok x cs) (hb : Below w.heap.size w w1) : d.K w1 ok x cs := step h (fun k _ hk => hb.block k hk)
theorem any (h : d.K w ok x cs) : d.K w anyB x cs := d.mono (fun _ _ => trivial) h
end Kd
/-- One cell. -/
def kOne {α : Type} (enc : α → Value) : Kd α where
  sz := 1
  K := fun _ _ x cs => cs = [enc x]
  len := fun h => by rw [h]; rfl
  bound := fun h => h
  move := fun _ h => h
  mono := fun _ h => h
def kStr : Kd ByteArray := kOne Value.string
def kBool : Kd Bool := kOne Value.bool
def kInt (k : IntKind) : Kd Int where
  sz := 1
  K := fun _ _ x cs => cs = [.int k x] ∧ (Lit.int k x).wf = true
  len := fun h => by rw [h.1]; rfl
  bound := fun h => h
  move := fun _ h => h
  mono := fun _ h => h
/-- Two in line. -/
def kPair {α β : Type} (a : Kd α) (b : Kd β) : Kd (α × β) where
  sz := a.sz + b.sz
  K := fun w ok x cs => ∃ c0 c1, cs = c0 ++ c1 ∧ a.K w ok x.1 c0 ∧ b.K w ok x.2 c1
  len := by rintro w ok x cs ⟨c0, c1, rfl, h0, h1⟩; rw [List.length_append, a.len h0, b.len h1]
  bound := by rintro w ok x cs ⟨c0, c1, rfl, h0, h1⟩; exact ⟨c0, c1, rfl, a.bound h0, b.bound h1⟩
  move := by rintro w w1 ok x cs hm ⟨c0, c1, rfl, h0, h1⟩; exact ⟨c0, c1, rfl, a.move hm h0, b.move hm h1⟩
  mono := by rintro w ok ok' x cs hm ⟨c0, c1, rfl, h0, h1⟩; exact ⟨c0, c1, rfl, a.mono hm h0, b.mono hm h1⟩
/-- A Lean structure by its fields. -/
def kIso {α β : Type} (d : Kd α) (f : β → α) : Kd β where
  sz := d.sz
  K := fun w ok x cs => d.K w ok (f x) cs
  len := d.len
  bound := d.bound
  move := d.move
  mono := d.mono
/-- The cells from an address on. -/
def cellsAt (w : World) (b off : Nat) (cs : List Value) : Prop := ∀ j v, cs[j]? = some v → w.cell? ⟨b, off + j, none⟩ = some v
theorem cellsAt_move {w w1 : World} {b off : Nat} {cs : List Value} (h : cellsAt w b off cs) (hm : w1.heap[b]? = w.heap[b]?) : cellsAt w1 b off cs := by
  intro j v hj
  rw [← h j v hj]
  exact World.cell?_of_block (w := w) (a := ⟨b, off + j, none⟩) hm
theorem cellsAt_lt {w : World} {b off : Nat} {cs : List Value} (h : cellsAt w b off cs) (hc : 0 < cs.length) : b < w.heap.size := by
  have := h 0 cs[0] (by simp [hc])
  exact World.block_lt_of_cell? w _ this
/-- A row of elements that is read. -/
def Row {α : Type} (d : Kd α) (w : World) (ok : Nat → Prop) (A : Option Addr) (xs : List α) : Prop :=
  xs = [] ∨ ∃ b off, A = some ⟨b, off, none⟩ ∧ ok b ∧ b < w.heap.size ∧ ∀ i (h : i < xs.length), ∃ cs, cellsAt w b (off + i * d.sz) cs ∧ d.K w ok xs[i] cs
theorem Row.bound {α : Type} {d : Kd α} {w : World} {ok : Nat → Prop} {A : Option Addr} {xs : List α} (h : Row d w ok A xs) : Row d w (fun k => ok k ∧ k < w.heap.size) A xs := by
  rcases h with h | ⟨b, off, hA, hb, hlt, h⟩
  · exact Or.inl h
  · exact Or.inr ⟨b, off, hA, ⟨hb, hlt⟩, hlt, fun i hi => let ⟨cs, h1, h2⟩ := h i hi; ⟨cs, h1, d.bound h2⟩⟩
theorem Row.mono {α : Type} {d : Kd α} {w : World} {ok ok' : Nat → Prop} {A : Option Addr} {xs : List α} (hm : ∀ k, ok k → ok' k) (h : Row d w ok A xs) : Row d w ok' A xs := by
  rcases h with h | ⟨b, off, hA, hb, hlt, h⟩
  · exact Or.inl h
  · exact Or.inr ⟨b, off, hA, hm _ hb, hlt, fun i hi => let ⟨cs, h1, h2⟩ := h i hi; ⟨cs, h1, d.mono hm h2⟩⟩
theorem Row.move {α : Type} {d : Kd α} {w w1 : World} {ok : Nat → Prop} {A : Option Addr} {xs : List α} (hm : ∀ k, ok k → w1.heap[k]? = w.heap[k]?) (h : Row d w ok A xs) : Row d w1 ok A xs := by
  rcases h with h | ⟨b, off, hA, hb, hlt, h⟩
  · exact Or.inl h
  · have e := hm _ hb
    have hlt' : b < w1.heap.size := by
      obtain ⟨o, ho⟩ : ∃ o, w.heap[b]? = some o := ⟨_, Array.getElem?_eq_getElem hlt⟩
      rw [ho] at e
      exact (Array.getElem?_eq_some_iff.1 e).1
    exact Or.inr ⟨b, off, hA, hb, hlt', fun i hi => let ⟨cs, h1, h2⟩ := h i hi; ⟨cs, cellsAt_move h1 e, d.move hm h2⟩⟩
theorem Row.step {α : Type} {d : Kd α} {w w1 : World} {ok : Nat → Prop} {A : Option Addr} {xs : List α} (h : Row d w ok A xs) (hm : ∀ k, ok k → k < w.heap.size → w1.heap[k]? = w.heap[k]?) : Row d w1 ok A xs :=
  Row.mono (fun _ hk => hk.1) (Row.move (fun k hk => hm k hk.1 hk.2) (Row.bound h))
theorem Row.below {α : Type} {d : Kd α} {w w1 : World} {ok : Nat → Prop} {A : Option Addr} {xs : List α} (h : Row d w ok A xs) (hb : Below w.heap.size w w1) : Row d w1 ok A xs := h.step (fun k _ hk => hb.block k hk)
def kSlice {α : Type} (d : Kd α) : Kd (List α) where
  sz := 1
  K := fun w ok xs cs => ∃ A c, cs = [.slice A xs.length c] ∧ xs.length ≤ c ∧ Row d w ok A xs
  len := by rintro w ok x cs ⟨A, c, rfl, _⟩; rfl
  bound := by rintro w ok x cs ⟨A, c, rfl, hl, h⟩; exact ⟨A, c, rfl, hl, h.bound⟩
  move := by rintro w w1 ok x cs hm ⟨A, c, rfl, hl, h⟩; exact ⟨A, c, rfl, hl, h.move hm⟩
  mono := by rintro w ok ok' x cs hm ⟨A, c, rfl, hl, h⟩; exact ⟨A, c, rfl, hl, h.mono hm⟩
/-- Whatever is read at type t is of the kind. -/
def Opens {α : Type} (P : Program) (t : TypeId) (d : Kd α) : Prop :=
  P.cellsOf t = d.sz ∧ ∀ {H : Type} (enc : TypeId × Value → H) (w : World) (base : Nat) (spare : Nat → Bool) (held : Bool) (fuel : Nat) (cs : List Value) (x : DataW H × List MemPlace),
    DataW.trod enc P w base spare held fuel t cs = some x → ∃ y, d.K w anyB y cs
theorem opens_str {P : Program} {t : TypeId} (ht : P.underlying t = some .string) (hc : P.cellsOf t = 1) : Opens P t kStr :=
  ⟨hc, fun enc w base spare held fuel cs x h => by obtain ⟨s, rfl, _⟩ := DataW.trod_string ht h; exact ⟨s, rfl⟩⟩
theorem opens_int {P : Program} {t : TypeId} {k : IntKind} (ht : P.underlying t = some (.int k)) (hc : P.cellsOf t = 1) : Opens P t (kInt k) :=
  ⟨hc, fun enc w base spare held fuel cs x h => by obtain ⟨s, rfl, _, hw⟩ := DataW.trod_int ht h; exact ⟨s, rfl, hw⟩⟩
theorem opens_bool {P : Program} {t : TypeId} (ht : P.underlying t = some .bool) (hc : P.cellsOf t = 1) : Opens P t kBool :=
  ⟨hc, fun enc w base spare held fuel cs x h => by obtain ⟨s, rfl, _⟩ := DataW.trod_bool ht h; exact ⟨s, rfl⟩⟩
theorem opens_iso {α β : Type} {P : Program} {t : TypeId} {d : Kd α} {f : β → α} (g : α → β) (hfg : ∀ x, f (g x) = x) (h : Opens P t d) : Opens P t (kIso d f) :=
  ⟨h.1, fun enc w base spare held fuel cs x hx => by obtain ⟨y, hy⟩ := h.2 enc w base spare held fuel cs x hx; exact ⟨g y, by show d.K w anyB (f (g y)) cs; rw [hfg]; exact hy⟩⟩
theorem cells?_at {w : World} {base : Nat} {a : Addr} {n : Nat} {cs : List Value} (h : w.cells? base a n = some cs) (hn : 0 < n) : a.spot = none ∧ cs.length = n ∧ cellsAt w a.block a.off cs := by
  unfold World.cells? at h
  split at h
  case isFalse => simp at h
  have hl := mapM_some_length h
  have hg : ∀ i, i < n → w.cell? (a.add i) = cs[i]? := fun i hi => by
    have := mapM_some_get h i i (by simp [hi])
    simpa using this
  have h0 := hg 0 hn
  have hl' : cs.length = n := by simpa using hl
  have hsp : a.spot = none := by
    have : w.cell? a = some (cs[0]'(by omega)) := by simpa [Addr.add, show 0 < cs.length from by omega] using h0
    exact World.cell?_spot this
  refine ⟨hsp, hl', fun j v hj => ?_⟩
  have hj' : j < n := by have := (List.getElem?_eq_some_iff.1 hj).1; omega
  have := hg j hj'
  rw [hj] at this
  rw [← this]
  obtain ⟨b, o, sp⟩ := a
  simp only at hsp
  subst hsp
  by_cases hz : j = 0 <;> simp [Addr.add, hz]
theorem opens_slice {α : Type} {P : Program} {t e : TypeId} {d : Kd α} (ht : P.underlying t = some (.slice e)) (hc : P.cellsOf t = 1) (hs : 0 < d.sz) (h : Opens P e d) : Opens P t (kSlice d) := by
  refine ⟨hc, fun enc w base spare held fuel cs x hx => ?_⟩
  rcases Go.Deep.open_slice ht hx with ⟨rfl, _⟩ | ⟨a, len, cap, m, n, D, Pl, rfl, _, hl, _, hm, _, hel⟩
  · exact ⟨[], none, 0, rfl, by simp, Or.inl rfl⟩
  have hle : len ≤ m := by rw [hm]; split <;> omega
  have hy : ∀ i, i < len → ∃ y : α, ∃ cs, cellsAt w a.block (a.off + i * d.sz) cs ∧ d.K w anyB y cs ∧ a.spot = none := fun i hi => by
    obtain ⟨cs', h1, h2⟩ := hel i (by omega)
    obtain ⟨y, hy⟩ := h.2 enc w base spare held n cs' _ h2
    rw [h.1] at h1
    obtain ⟨g1, _, g3⟩ := cells?_at h1 hs
    have hsp : a.spot = none ∨ a.spot ≠ none := by by_cases a.spot = none <;> simp_all
    by_cases hz : i * d.sz = 0
    · rw [hz] at h1 g1 g3
      simp only [Addr.add, if_true] at g1 g3
      exact ⟨y, cs', by rw [hz]; simpa using g3, hy, g1⟩
    · -- the first element tells that the spot is none
      obtain ⟨cs0, h10, _⟩ := hel 0 (by omega)
      rw [h.1] at h10
      obtain ⟨k1, _, _⟩ := cells?_at h10 hs
      simp only [Nat.zero_mul, Addr.add, if_true] at k1
      simp only [Addr.add, if_neg hz] at g3
      exact ⟨y, cs', g3, hy, k1⟩
  by_cases h0 : len = 0
  · subst h0
    exact ⟨[], some a, cap, rfl, by simp, Or.inl rfl⟩
  obtain ⟨y0, _⟩ := hy 0 (by omega)
  have : Inhabited α := ⟨y0⟩
  obtain ⟨f, hf⟩ := Go.Deep.choose_lt hy
  have hsp : a.spot = none := by obtain ⟨_, _, _, k⟩ := hf 0 (by omega); exact k
  obtain ⟨b, o, sp⟩ := a
  simp only at hsp
  subst hsp
  have hlt : b < w.heap.size := by
    obtain ⟨cs, k1, k2, _⟩ := hf 0 (by omega)
    exact cellsAt_lt k1 (by rw [d.len k2]; exact hs)
  refine ⟨(List.range len).map f, some ⟨b, o, none⟩, cap, by simp, by simpa using hl, Or.inr ⟨b, o, rfl, trivial, hlt, fun i hi => ?_⟩⟩
  obtain ⟨cs, k1, k2, _⟩ := hf i (by simpa using hi)
  exact ⟨cs, k1, by simpa using k2⟩
def OpensF {α : Type} (P : Program) (fs : List Field) (off : Nat) (d : Kd α) : Prop :=
  ∀ {H : Type} (enc : TypeId × Value → H) (w : World) (base : Nat) (spare : Nat → Bool) (held : Bool) (fuel : Nat) (cs : List Value), cs.length = off + d.sz →
    (∀ f ∈ fs, ∃ x, DataW.trod enc P w base spare held fuel f.type ((cs.drop f.offset).take (P.cellsOf f.type)) = some x) → ∃ y, d.K w anyB y (cs.drop off)
theorem opensF_one {α : Type} {P : Program} {f : Field} {off : Nat} {d : Kd α} (ho : f.offset = off) (h : Opens P f.type d) : OpensF P [f] off d := by
  intro H enc w base spare held fuel cs hl hf
  obtain ⟨x, hx⟩ := hf f (by simp)
  obtain ⟨y, hy⟩ := h.2 enc w base spare held fuel _ x hx
  rw [ho, h.1, List.take_of_length_le (by simp; omega)] at hy
  exact ⟨y, hy⟩
theorem opensF_cons {α β : Type} {P : Program} {f : Field} {fs : List Field} {off : Nat} {d : Kd α} {e : Kd β} (ho : f.offset = off) (h : Opens P f.type d) (hs : OpensF P fs (off + d.sz) e) : OpensF P (f :: fs) off (kPair d e) := by
  intro H enc w base spare held fuel cs hl hf
  obtain ⟨x, hx⟩ := hf f (by simp)
  obtain ⟨y, hy⟩ := h.2 enc w base spare held fuel _ x hx
  obtain ⟨z, hz⟩ := hs enc w base spare held fuel cs (by rw [hl]; show off + (d.sz + e.sz) = _; omega) (fun g hg => hf g (by simp [hg]))
  rw [ho, h.1] at hy
  refine ⟨(y, z), (cs.drop off).take d.sz, cs.drop (off + d.sz), ?_, hy, hz⟩
  rw [← List.drop_drop, List.take_append_drop]
theorem opens_struct {α : Type} {P : Program} {t : TypeId} {fs : Array Field} {d : Kd α} (ht : P.underlying t = some (.struct fs)) (hc : P.cellsOf t = d.sz) (h : OpensF P fs.toList 0 d) : Opens P t d := by
  refine ⟨hc, fun enc w base spare held fuel cs x hx => ?_⟩
  obtain ⟨xs, n, rfl, rfl, hl, hn, hi⟩ := DataW.trod_struct ht hx
  have := h enc w base spare held n cs (by omega) (fun f hf => by
    obtain ⟨i, hi', he⟩ := List.getElem_of_mem hf
    have e := hi i f (by rw [← he]; simp at hi' ⊢)
    exact ⟨xs[i]'(by simp at hi'; omega), by rw [e]; simp⟩)
  simpa using this
end Go.Proofs.Ythhfcambdmdgfaa
namespace Go.Proofs.Ythhfcambdmdgfaa
open Go.RowKit
theorem opStr : Opens Try.prog 9 kStr := opens_str Try.underlying9 (by kernel_rfl)
theorem opU8 : Opens Try.prog 5 (kInt .u8) := opens_int Try.underlying5 (by kernel_rfl)
end Go.Proofs.Ythhfcambdmdgfaa
namespace Go.Proofs.Ythhfcambdmdgfaa
open Go.RowKit Go.Maps
set_option linter.unusedVariables false
set_option linter.unusedSimpArgs false
theorem opI64 : Opens Try.prog 2 (kInt .i64) := opens_int Try.underlying2 (by kernel_rfl)
theorem opBool : Opens Try.prog 4 kBool := opens_bool Try.underlying4 (by kernel_rfl)
def kKeyD : Kd KeyD := kIso (kPair kStr (kPair kStr kStr)) fun x => (x.kind, x.space, x.name)
theorem opKeyD : Opens Try.prog 24 kKeyD := by
  refine opens_iso (fun x => ⟨x.1, x.2.1, x.2.2⟩) (fun _ => rfl) ?_
  refine opens_struct Try.underlying24 (by kernel_rfl) ?_
  exact (by refine opensF_cons ?_ ?_ ?_; rfl; exact opStr; refine opensF_cons ?_ ?_ ?_; rfl; exact opStr; refine opensF_one ?_ ?_; rfl; exact opStr)
def kRes1 : Kd (ByteArray × Int) := kPair kStr (kInt .i64)
theorem opRes1 : Opens Try.prog 112 kRes1 := by
  refine opens_struct Try.underlying112 (by kernel_rfl) ?_
  exact (by refine opensF_cons ?_ ?_ ?_; rfl; exact opStr; refine opensF_one ?_ ?_; rfl; exact opI64)
theorem opResL : Opens Try.prog 25 (kSlice kRes1) := opens_slice Try.underlying25 (by kernel_rfl) (by decide) opRes1
def kObj : Kd ObjD := kIso (kPair kKeyD (kPair (kInt .i64) (kPair kStr (kPair kBool (kPair kBool (kSlice kRes1)))))) fun o => (o.key, o.ver, o.cls, o.term, o.best, o.charge)
theorem opObj : Opens Try.prog 27 kObj := by
  refine opens_iso (fun x => ⟨x.1, x.2.1, x.2.2.1, x.2.2.2.1, x.2.2.2.2.1, x.2.2.2.2.2⟩) (fun _ => rfl) ?_
  refine opens_struct Try.underlying27 (by kernel_rfl) ?_
  exact (by refine opensF_cons ?_ ?_ ?_; rfl; exact opKeyD; refine opensF_cons ?_ ?_ ?_; rfl; exact opI64; refine opensF_cons ?_ ?_ ?_; rfl; exact opStr; refine opensF_cons ?_ ?_ ?_; rfl; exact opBool; refine opensF_cons ?_ ?_ ?_; rfl; exact opBool; refine opensF_one ?_ ?_; rfl; exact opResL)
theorem in64_wf {n : Int} (h : (Lit.int .i64 n).wf = true) : in64 n := by
  simp [Lit.wf, IntKind.min, IntKind.max, IntKind.signed, IntKind.bits] at h
  exact h
theorem resS_row {w : World} {ok : Nat → Prop} {A : Option Addr} {c : Nat} {l : Res} (hc : l.length ≤ c) (h : Row kRes1 w ok A l) : ResS w (.slice A l.length c) l := by
  rcases h with rfl | ⟨b, off, rfl, _, _, hr⟩
  · exact ⟨⟨rfl, _, _, rfl, hc, .inl rfl⟩, by rintro p ⟨⟩⟩
  · refine ⟨⟨resC_len l, _, _, rfl, hc, .inr ⟨b, off, rfl, fun j u hu => ?_⟩⟩, fun p hp => ?_⟩
    · have hj : j < l.length * 2 := by have := (List.getElem?_eq_some_iff.1 hu).1; rwa [resC_len] at this
      have hi : j / 2 < l.length := by omega
      obtain ⟨cs, hcs, c0, c1, rfl, h0, h1⟩ := hr (j / 2) hi
      have e0 : c0 = [.string (l[j / 2]'hi).1] := h0
      have e1 : c1 = [.int .i64 (l[j / 2]'hi).2] := h1.1
      subst e0; subst e1
      have hz : kRes1.sz = 2 := rfl
      rw [hz] at hcs
      have hg := resC_get l (j / 2) hi (j % 2) (by omega)
      rw [show j / 2 * 2 + j % 2 = j by omega, hu] at hg
      have := hcs (j % 2) u hg.symm
      rwa [show off + j / 2 * 2 + j % 2 = off + j by omega] at this
    · obtain ⟨i, hi, rfl⟩ := List.mem_iff_getElem.1 hp
      obtain ⟨cs, hcs, c0, c1, rfl, h0, h1⟩ := hr i hi
      exact in64_wf h1.2
theorem obj_of {w : World} {ok : Nat → Prop} {o : ObjD} {cs : List Value} (h : kObj.K w ok o cs) : ∃ sl, Value.agg cs.toArray = objV o sl ∧ ObjS w sl o := by
  obtain ⟨k0, k1, rfl, ⟨a0, a1, rfl, h0, a2, a3, rfl, h2, h3⟩, v0, v1, rfl, hv, s0, s1, rfl, hs, t0, t1, rfl, ht, b0, b1, rfl, hb, A, c, rfl, hc, hr⟩ := h
  rw [show a0 = _ from h0, show a2 = _ from h2, show a3 = _ from h3, show v0 = _ from hv.1, show s0 = _ from hs, show t0 = _ from ht, show b0 = _ from hb]
  exact ⟨.slice A o.charge.length c, rfl, resS_row hc hr, in64_wf hv.2⟩
end Go.Proofs.Ythhfcambdmdgfaa
namespace Go.Proofs.Ythhfcambdmdgfaa
open Go.RowKit Go.Maps
set_option linter.unusedVariables false
set_option linter.unusedSimpArgs false
def FitOut (w : World) (kk ks kn cls : ByteArray) (l : Res) (e : Ending) (w' : World) : Prop := ∃ f, e = .returned (.bool f) ∧ (f = true → (kk.size ≤ 200 ∧ ks.size ≤ 200 ∧ kn.size ≤ 200 ∧ cls.size ≤ 200 ∧ l.length ≤ 40 ∧ ∀ p ∈ l, p.1.size ≤ 200)) ∧ Below w.heap.size w w'
theorem fit_no {w w' : World} {kk ks kn cls : ByteArray} {l : Res} (h : Below w.heap.size w w') : FitOut w kk ks kn cls l (.returned (.bool false)) w' := ⟨false, rfl, (fun h => by cases h), h⟩
theorem fit_yes {w w' : World} {kk ks kn cls : ByteArray} {l : Res} (h : Below w.heap.size w w') (q : kk.size ≤ 200 ∧ ks.size ≤ 200 ∧ kn.size ≤ 200 ∧ cls.size ≤ 200 ∧ l.length ≤ 40 ∧ ∀ p ∈ l, p.1.size ≤ 200) : FitOut w kk ks kn cls l (.returned (.bool true)) w' := ⟨true, rfl, (fun _ => q), h⟩
set_option maxRecDepth 100000 in
set_option maxHeartbeats 8000000 in
theorem fits5_calls (w : World) {sl : Value} {o : ObjD} (h : ObjS w sl o) :
    Calls Try.prog 55 #[objV o sl] w (FitOut w o.key.kind o.key.space o.key.name o.cls o.charge) := by
  have H := Lib.hid h.1
  obtain ⟨al, cl, rfl⟩ := h.1.form
  clear h
  obtain ⟨l, hl⟩ : ∃ l, o.charge = l := ⟨_, rfl⟩
  unfold objV
  rw [hl] at H ⊢
  clear hl
  obtain ⟨⟨kk, ks, kn⟩, ver, cls, term, best, chg⟩ := o
  simp only
  go_enter Try.func55, Try.ntmps55
  go_upto_region 1 with fail
  first | with_reducible refine name_wp ?_ | with_reducible refine name_calls ?_
  intro W hWeq
  have g0 : W.heap[w.heap.size]? = some (.cells #[.string kk, .string ks, .string kn, .int .i64 ver, .string cls, .bool term, .bool best, .slice al l.length cl] 27) := by rw [hWeq]; repeat (first | (with_reducible exact blk_newAt _ _ (by simp)) | with_reducible refine blk_drew ?_ | with_reducible refine blk_dN ?_ _ | with_reducible refine blk_old ?_ _)
  have hw : Below w.heap.size w W := by rw [hWeq]; repeat (first | with_reducible exact Below.refl _ _ | with_reducible refine Below.drew ?_ | with_reducible refine bl_dN ?_ _ | with_reducible refine Below.alloc ?_ (by simp <;> omega) _)
  clear hWeq
  have hz : w.heap.size + 1 ≤ W.heap.size := by have := blk_lt g0; omega
  have c0_0 : W.cell? ⟨w.heap.size, 0, none⟩ = some (.string kk) := blk_cell g0 0
  have c0_1 : W.cell? ⟨w.heap.size, 1, none⟩ = some (.string ks) := blk_cell g0 1
  have c0_2 : W.cell? ⟨w.heap.size, 2, none⟩ = some (.string kn) := blk_cell g0 2
  have c0_3 : W.cell? ⟨w.heap.size, 3, none⟩ = some (.int .i64 ver) := blk_cell g0 3
  have c0_4 : W.cell? ⟨w.heap.size, 4, none⟩ = some (.string cls) := blk_cell g0 4
  have c0_5 : W.cell? ⟨w.heap.size, 5, none⟩ = some (.bool term) := blk_cell g0 5
  have c0_6 : W.cell? ⟨w.heap.size, 6, none⟩ = some (.bool best) := blk_cell g0 6
  have c0_7 : W.cell? ⟨w.heap.size, 7, none⟩ = some (.slice al l.length cl) := blk_cell g0 7
  have f0 : ∀ j, W.frozen? ⟨w.heap.size, j, none⟩ = false := blk_free g0
  have hB : Below W.heap.size W W := Below.refl _ _
  have G0 := Lib.hid g0; clear g0
  have F0 := Lib.hid f0; clear f0
  have Hw := Lib.hid hw; clear hw
  have HW := Lib.hid (H.out.below Hw.out)
  by_cases h_0 : kk.size ≤ 200
  · have i_0 : ¬ (200 : Int) < kk.size := by omega
    have j_0 : decide ((200 : Int) < kk.size) = false := decide_eq_false i_0
    by_cases h_1 : ks.size ≤ 200
    · have i_1 : ¬ (200 : Int) < ks.size := by omega
      have j_1 : decide ((200 : Int) < ks.size) = false := decide_eq_false i_1
      by_cases h_2 : kn.size ≤ 200
      · have i_2 : ¬ (200 : Int) < kn.size := by omega
        have j_2 : decide ((200 : Int) < kn.size) = false := decide_eq_false i_2
        by_cases h_3 : cls.size ≤ 200
        · have i_3 : ¬ (200 : Int) < cls.size := by omega
          have j_3 : decide ((200 : Int) < cls.size) = false := decide_eq_false i_3
          by_cases h_4 : l.length ≤ 40
          · have i_4 : ¬ (40 : Int) < l.length := by omega
            have j_4 : decide ((40 : Int) < l.length) = false := decide_eq_false i_4
            go_upto_region 3 with fail
            go_wp2_with fail
            go_loopw [3] (fun i wr => ∃ k : Nat, i = .int .i64 k ∧ k ≤ l.length ∧ Hid (∀ p ∈ l.take k, p.1.size ≤ 200) ∧ Below W.heap.size W wr) (fun i _ => l.length - (intOf i).toNat)
            case atStart => exact ⟨0, rfl, Nat.zero_le _, Lib.hid (by intro p hp; cases hp), hB⟩
            case round =>
              clear hB
              obtain ⟨k, rfl, hk, HR, hB⟩ := hrel
              have k7 := cb hB c0_7
              by_cases hkl : k < l.length
              · have hkI : (k : Int) < l.length := by omega
                obtain ⟨b, of, c, he, q0, q1, hin⟩ := HW.out.at' hkl
                cases he
                have q0 := cb hB q0
                have HSTEP := Lib.hid (show (l[k]'hkl).1.size ≤ 200 → ∀ p ∈ l.take (k + 1), p.1.size ≤ 200 from fun h p hp => by
                  rw [List.take_succ_eq_append_getElem hkl] at hp
                  rcases List.mem_append.1 hp with h9 | h9
                  · exact HR.out p h9
                  · obtain rfl := List.mem_singleton.1 h9; exact h)
                clear hin q1
                obtain ⟨p, hp⟩ : ∃ p, l[k]'hkl = p := ⟨_, rfl⟩
                rw [hp] at q0 HSTEP
                clear hp
                by_cases hz : p.1.size ≤ 200
                · have hzI : ¬ (200 : Int) < p.1.size := by omega
                  have hzJ : decide ((200 : Int) < p.1.size) = false := decide_eq_false hzI
                  have HOK := Lib.hid (HSTEP.out hz)
                  go_wp2_with fail
                  go_roundw
                  case rel => exact ⟨k + 1, by simp, by omega, HOK, hB⟩
                  case measure => simp [intOf]; omega
                · have hzI : (200 : Int) < p.1.size := by omega
                  have hzJ : decide ((200 : Int) < p.1.size) = true := decide_eq_true hzI
                  go_wp2_with fail
                  go_ret
                  exact fit_no (bl_from Hw.out hB)
              · obtain rfl : k = l.length := by omega
                have hR := HR.out
                rw [List.take_length] at hR
                have HR2 := Lib.hid hR
                clear hR
                go_wp2_with fail
                go_ret
                exact fit_yes (bl_from Hw.out hB) ⟨h_0, h_1, h_2, h_3, h_4, HR2.out⟩
          · have i_4 : (40 : Int) < l.length := by omega
            have j_4 : decide ((40 : Int) < l.length) = true := decide_eq_true i_4
            go_wp2_with fail
            go_ret
            exact fit_no Hw.out
        · have i_3 : (200 : Int) < cls.size := by omega
          have j_3 : decide ((200 : Int) < cls.size) = true := decide_eq_true i_3
          go_wp2_with fail
          go_ret
          exact fit_no Hw.out
      · have i_2 : (200 : Int) < kn.size := by omega
        have j_2 : decide ((200 : Int) < kn.size) = true := decide_eq_true i_2
        go_wp2_with fail
        go_ret
        exact fit_no Hw.out
    · have i_1 : (200 : Int) < ks.size := by omega
      have j_1 : decide ((200 : Int) < ks.size) = true := decide_eq_true i_1
      go_wp2_with fail
      go_ret
      exact fit_no Hw.out
  · have i_0 : (200 : Int) < kk.size := by omega
    have j_0 : decide ((200 : Int) < kk.size) = true := decide_eq_true i_0
    go_wp2_with fail
    go_ret
    exact fit_no Hw.out
end Go.Proofs.Ythhfcambdmdgfaa

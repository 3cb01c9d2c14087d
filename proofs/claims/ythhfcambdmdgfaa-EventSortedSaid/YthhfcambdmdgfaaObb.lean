import Derived.Test.YthhfcambdmdgfaaOba
import Derived.Test.YthhfcambdmdgfaaCpy
namespace Go.Proofs.Ythhfcambdmdgfaa
open Go.RowKit Go.Maps
set_option linter.unusedVariables false
set_option linter.unusedSimpArgs false
theorem info_res : (Try.prog.info? 112).map (fun i => (i.zero, i.size, i.bytes)) = some (some (.agg #[.string ⟨#[]⟩, .int .i64 0]), 2, 24) := by kernel_rfl
/-- A fresh list of resources: in blocks from b on. -/
def ResF (w : World) (b : Nat) (x : Value) (l : Res) : Prop := ∃ g, b ≤ g ∧ x = .slice (some ⟨g, 0, none⟩) l.length l.length ∧ w.heap[g]? = some (.cells (resC l).toArray 112)
theorem ResF.resS {w : World} {b : Nat} {x : Value} {l : Res} (h : ResF w b x l) (hi : ∀ p ∈ l, in64 p.2) : ResS w x l := by
  obtain ⟨g, _, rfl, hg⟩ := h
  exact ⟨sliS_lit hg (resC_len l), hi⟩
theorem Kept.frozen {X : Nat → Prop} {w w' : World} (h : Kept X w w') {a : Addr} (hl : a.block < w.heap.size) (hx : ¬ X a.block) (hf : w.frozen? a = false) : w'.frozen? a = false := by
  rw [World.frozen?_of_block (h.block a.block hl hx)]; exact hf
set_option maxRecDepth 100000 in
set_option maxHeartbeats 8000000 in
theorem own_calls (w : World) {sl : Value} {o : ObjD} (h : ObjS w sl o) (hl : o.charge.length ≤ 100000) :
    Calls Try.prog 56 #[objV o sl] w fun e w' => ∃ x, e = .returned (objV o x) ∧ ResF w' w.heap.size x o.charge ∧ Below w.heap.size w w' := by
  have hB := Below.refl w.heap.size w
  have H := Lib.hid h.1
  obtain ⟨al, cl, rfl⟩ := h.1.form
  have hin := Lib.hid h.1.2
  clear h
  obtain ⟨l, hl'⟩ : ∃ l, o.charge = l := ⟨_, rfl⟩
  rw [hl'] at H hl hin ⊢
  clear hl'
  obtain ⟨⟨kk, ks, kn⟩, ver, cls, term, best, chg⟩ := o
  obtain ⟨i0, hi, hz0, hz1, hz2⟩ := info_parts info_res
  unfold objV
  simp only
  go_enter Try.func56, Try.ntmps56
  go_upto_region 1 with fail
  first | with_reducible refine name_wp ?_ | with_reducible refine name_calls ?_
  intro W hWeq
  have g0 : W.heap[w.heap.size]? = some (.cells #[.string kk, .string ks, .string kn, .int .i64 ver, .string cls, .bool term, .bool best, .slice al l.length cl] 27) := by rw [hWeq]; repeat (first | (with_reducible exact blk_newAt _ _ (by simp)) | with_reducible refine blk_drew ?_ | with_reducible refine blk_dN ?_ _ | with_reducible refine blk_old ?_ _)
  have g1 : W.heap[w.heap.size + 1]? = some (.cells #[.string ⟨#[]⟩, .string ⟨#[]⟩, .string ⟨#[]⟩, .int .i64 0, .string ⟨#[]⟩, .bool false, .bool false, .slice none 0 0] 27) := by rw [hWeq]; repeat (first | (with_reducible exact blk_newAt _ _ (by simp)) | with_reducible refine blk_drew ?_ | with_reducible refine blk_dN ?_ _ | with_reducible refine blk_old ?_ _)
  have hw : Below w.heap.size w W := by rw [hWeq]; repeat (first | with_reducible exact Below.refl _ _ | with_reducible refine Below.drew ?_ | with_reducible refine bl_dN ?_ _ | with_reducible refine Below.alloc ?_ (by simp <;> omega) _)
  clear hWeq
  have hz : w.heap.size + 2 ≤ W.heap.size := by have := blk_lt g1; omega
  have c0_0 : W.cell? ⟨w.heap.size, 0, none⟩ = some (.string kk) := blk_cell g0 0
  have c0_1 : W.cell? ⟨w.heap.size, 1, none⟩ = some (.string ks) := blk_cell g0 1
  have c0_2 : W.cell? ⟨w.heap.size, 2, none⟩ = some (.string kn) := blk_cell g0 2
  have c0_3 : W.cell? ⟨w.heap.size, 3, none⟩ = some (.int .i64 ver) := blk_cell g0 3
  have c0_4 : W.cell? ⟨w.heap.size, 4, none⟩ = some (.string cls) := blk_cell g0 4
  have c0_5 : W.cell? ⟨w.heap.size, 5, none⟩ = some (.bool term) := blk_cell g0 5
  have c0_6 : W.cell? ⟨w.heap.size, 6, none⟩ = some (.bool best) := blk_cell g0 6
  have c0_7 : W.cell? ⟨w.heap.size, 7, none⟩ = some (.slice al l.length cl) := blk_cell g0 7
  have f0 : ∀ j, W.frozen? ⟨w.heap.size, j, none⟩ = false := blk_free g0
  have c1_0 : W.cell? ⟨w.heap.size + 1, 0, none⟩ = some (.string ⟨#[]⟩) := blk_cell g1 0
  have c1_1 : W.cell? ⟨w.heap.size + 1, 1, none⟩ = some (.string ⟨#[]⟩) := blk_cell g1 1
  have c1_2 : W.cell? ⟨w.heap.size + 1, 2, none⟩ = some (.string ⟨#[]⟩) := blk_cell g1 2
  have c1_3 : W.cell? ⟨w.heap.size + 1, 3, none⟩ = some (.int .i64 0) := blk_cell g1 3
  have c1_4 : W.cell? ⟨w.heap.size + 1, 4, none⟩ = some (.string ⟨#[]⟩) := blk_cell g1 4
  have c1_5 : W.cell? ⟨w.heap.size + 1, 5, none⟩ = some (.bool false) := blk_cell g1 5
  have c1_6 : W.cell? ⟨w.heap.size + 1, 6, none⟩ = some (.bool false) := blk_cell g1 6
  have c1_7 : W.cell? ⟨w.heap.size + 1, 7, none⟩ = some (.slice none 0 0) := blk_cell g1 7
  have f1 : ∀ j, W.frozen? ⟨w.heap.size + 1, j, none⟩ = false := blk_free g1
  have hB : Below W.heap.size W W := Below.refl _ _
  have G0 := Lib.hid g0; clear g0
  have F0 := Lib.hid f0; clear f0
  have G1 := Lib.hid g1; clear g1
  have F1 := Lib.hid f1; clear f1
  have Hw := Lib.hid hw; clear hw
  have HW := Lib.hid (H.out.below Hw.out)
  have hWw := Hw.out.size
  have hmk : ∀ W : World, (Instr.makeSlice 25 (.int .i64 (l.length : Int)) (.int .i64 (l.length : Int))).run Try.prog W = .ok (.slice (some ⟨W.heap.size, 0, none⟩) l.length l.length) (W.alloc (.cells (madeCells (Value.agg #[.string ⟨#[]⟩, .int .i64 0]).cells (l.length * 2)) 112)) := fun W => by
    have h := run_makeSlice W 25 112 i0 _ Try.underlying25 hi hz0 .i64 .i64 (l.length : Int) (l.length : Int) (by omega) (Int.le_refl _) (by rw [hz1]; simp; omega) (by rw [hz2]; omega) (by omega)
    rw [hz1] at h
    simpa using h
  have HI := Lib.hid (And.intro hi hz1)
  clear hi hz0 hz1 hz2
  go_upto_region 2 with fail
  clear hmk
  obtain ⟨W2, hW2⟩ : ∃ W2, W2 = W.alloc (.cells (madeCells (Value.agg #[.string ⟨#[]⟩, .int .i64 0]).cells (l.length * 2)) 112) := ⟨_, rfl⟩
  have hb2 : Below W.heap.size W W2 := by rw [hW2]; exact (Below.refl _ _).alloc (Nat.le_refl _) _
  have hg2 : W2.heap[W.heap.size]? = some (.cells (madeCells (Value.agg #[.string ⟨#[]⟩, .int .i64 0]).cells (l.length * 2)) 112) := by rw [hW2]; exact blk_new W _
  have hshow : W.alloc (.cells (madeCells #[.string ⟨#[]⟩, .int .i64 0] (l.length * 2)) 112) = W2 := by rw [hW2]; rfl
  rw [hshow]
  clear hW2 hshow
  obtain ⟨w3, hrun, hg3, hk3⟩ := run_copy_all (P := Try.prog) W2 25 3 112 i0 2 Try.underlying25 HI.out.1 HI.out.2 W.heap.size l.length _ _ hg2 (size_madeCells _ _) _ (resC l) (HW.out.below hb2).1 (resC_one l)
  have d0_0 := cb hb2 c0_0
  have d0_1 := cb hb2 c0_1
  have d0_2 := cb hb2 c0_2
  have d0_3 := cb hb2 c0_3
  have d0_4 := cb hb2 c0_4
  have d0_5 := cb hb2 c0_5
  have d0_6 := cb hb2 c0_6
  have d0_7 := cb hb2 c0_7
  have d1_0 := cb hb2 c1_0
  have d1_1 := cb hb2 c1_1
  have d1_2 := cb hb2 c1_2
  have d1_3 := cb hb2 c1_3
  have d1_4 := cb hb2 c1_4
  have d1_5 := cb hb2 c1_5
  have d1_6 := cb hb2 c1_6
  have d1_7 := cb hb2 c1_7
  have e0_0 := fb hb2 (lt_of_cell c0_0) (F0.out 0)
  have e0_1 := fb hb2 (lt_of_cell c0_1) (F0.out 1)
  have e0_2 := fb hb2 (lt_of_cell c0_2) (F0.out 2)
  have e0_3 := fb hb2 (lt_of_cell c0_3) (F0.out 3)
  have e0_4 := fb hb2 (lt_of_cell c0_4) (F0.out 4)
  have e0_5 := fb hb2 (lt_of_cell c0_5) (F0.out 5)
  have e0_6 := fb hb2 (lt_of_cell c0_6) (F0.out 6)
  have e0_7 := fb hb2 (lt_of_cell c0_7) (F0.out 7)
  have e1_0 := fb hb2 (lt_of_cell c1_0) (F1.out 0)
  have e1_1 := fb hb2 (lt_of_cell c1_1) (F1.out 1)
  have e1_2 := fb hb2 (lt_of_cell c1_2) (F1.out 2)
  have e1_3 := fb hb2 (lt_of_cell c1_3) (F1.out 3)
  have e1_4 := fb hb2 (lt_of_cell c1_4) (F1.out 4)
  have e1_5 := fb hb2 (lt_of_cell c1_5) (F1.out 5)
  have e1_6 := fb hb2 (lt_of_cell c1_6) (F1.out 6)
  have e1_7 := fb hb2 (lt_of_cell c1_7) (F1.out 7)
  have hlt0 := blk_lt G0.out; have hlt1 := blk_lt G1.out
  have k0_0 := hk3.cell d0_0 (by show ¬ (_ = W.heap.size); simp only; omega)
  have k0_1 := hk3.cell d0_1 (by show ¬ (_ = W.heap.size); simp only; omega)
  have k0_2 := hk3.cell d0_2 (by show ¬ (_ = W.heap.size); simp only; omega)
  have k0_3 := hk3.cell d0_3 (by show ¬ (_ = W.heap.size); simp only; omega)
  have k0_4 := hk3.cell d0_4 (by show ¬ (_ = W.heap.size); simp only; omega)
  have k0_5 := hk3.cell d0_5 (by show ¬ (_ = W.heap.size); simp only; omega)
  have k0_6 := hk3.cell d0_6 (by show ¬ (_ = W.heap.size); simp only; omega)
  have k0_7 := hk3.cell d0_7 (by show ¬ (_ = W.heap.size); simp only; omega)
  have k1_0 := hk3.cell d1_0 (by show ¬ (_ = W.heap.size); simp only; omega)
  have k1_1 := hk3.cell d1_1 (by show ¬ (_ = W.heap.size); simp only; omega)
  have k1_2 := hk3.cell d1_2 (by show ¬ (_ = W.heap.size); simp only; omega)
  have k1_3 := hk3.cell d1_3 (by show ¬ (_ = W.heap.size); simp only; omega)
  have k1_4 := hk3.cell d1_4 (by show ¬ (_ = W.heap.size); simp only; omega)
  have k1_5 := hk3.cell d1_5 (by show ¬ (_ = W.heap.size); simp only; omega)
  have k1_6 := hk3.cell d1_6 (by show ¬ (_ = W.heap.size); simp only; omega)
  have k1_7 := hk3.cell d1_7 (by show ¬ (_ = W.heap.size); simp only; omega)
  have f0_0 : w3.frozen? ⟨w.heap.size, 0, none⟩ = false := hk3.frozen (lt_of_cell d0_0) (by show ¬ (_ = W.heap.size); simp only; omega) e0_0
  have f0_1 : w3.frozen? ⟨w.heap.size, 1, none⟩ = false := hk3.frozen (lt_of_cell d0_1) (by show ¬ (_ = W.heap.size); simp only; omega) e0_1
  have f0_2 : w3.frozen? ⟨w.heap.size, 2, none⟩ = false := hk3.frozen (lt_of_cell d0_2) (by show ¬ (_ = W.heap.size); simp only; omega) e0_2
  have f0_3 : w3.frozen? ⟨w.heap.size, 3, none⟩ = false := hk3.frozen (lt_of_cell d0_3) (by show ¬ (_ = W.heap.size); simp only; omega) e0_3
  have f0_4 : w3.frozen? ⟨w.heap.size, 4, none⟩ = false := hk3.frozen (lt_of_cell d0_4) (by show ¬ (_ = W.heap.size); simp only; omega) e0_4
  have f0_5 : w3.frozen? ⟨w.heap.size, 5, none⟩ = false := hk3.frozen (lt_of_cell d0_5) (by show ¬ (_ = W.heap.size); simp only; omega) e0_5
  have f0_6 : w3.frozen? ⟨w.heap.size, 6, none⟩ = false := hk3.frozen (lt_of_cell d0_6) (by show ¬ (_ = W.heap.size); simp only; omega) e0_6
  have f0_7 : w3.frozen? ⟨w.heap.size, 7, none⟩ = false := hk3.frozen (lt_of_cell d0_7) (by show ¬ (_ = W.heap.size); simp only; omega) e0_7
  have f1_0 : w3.frozen? ⟨w.heap.size + 1, 0, none⟩ = false := hk3.frozen (lt_of_cell d1_0) (by show ¬ (_ = W.heap.size); simp only; omega) e1_0
  have f1_1 : w3.frozen? ⟨w.heap.size + 1, 1, none⟩ = false := hk3.frozen (lt_of_cell d1_1) (by show ¬ (_ = W.heap.size); simp only; omega) e1_1
  have f1_2 : w3.frozen? ⟨w.heap.size + 1, 2, none⟩ = false := hk3.frozen (lt_of_cell d1_2) (by show ¬ (_ = W.heap.size); simp only; omega) e1_2
  have f1_3 : w3.frozen? ⟨w.heap.size + 1, 3, none⟩ = false := hk3.frozen (lt_of_cell d1_3) (by show ¬ (_ = W.heap.size); simp only; omega) e1_3
  have f1_4 : w3.frozen? ⟨w.heap.size + 1, 4, none⟩ = false := hk3.frozen (lt_of_cell d1_4) (by show ¬ (_ = W.heap.size); simp only; omega) e1_4
  have f1_5 : w3.frozen? ⟨w.heap.size + 1, 5, none⟩ = false := hk3.frozen (lt_of_cell d1_5) (by show ¬ (_ = W.heap.size); simp only; omega) e1_5
  have f1_6 : w3.frozen? ⟨w.heap.size + 1, 6, none⟩ = false := hk3.frozen (lt_of_cell d1_6) (by show ¬ (_ = W.heap.size); simp only; omega) e1_6
  have f1_7 : w3.frozen? ⟨w.heap.size + 1, 7, none⟩ = false := hk3.frozen (lt_of_cell d1_7) (by show ¬ (_ = W.heap.size); simp only; omega) e1_7
  have hw3 : w.heap.size + 1 < w3.heap.size := by have := hk3.size; have := hb2.size; omega
  go_wp2_with (at_builtin; refine Lib.wpList_copy_run _ rfl (.tmp 8) (.tmp 10) _ _ rfl _ _ rfl rfl hrun ?_)
  clear hrun
  refine name_body ?_
  intro U hU
  have hb3 : Below w.heap.size w w3 := (Hw.out.trans (hb2.mono hWw)).trans (hk3.below (B := w.heap.size) (by have := hb2.size; omega) (fun k e => by rw [e]; exact hWw))
  have hbU : Below w.heap.size w U := by
    rw [hU]
    repeat (refine Below.setCell ?_ (by simp) _)
    exact hb3
  have hgU : U.heap[W.heap.size]? = some (.cells (resC l).toArray 112) := by
    rw [hU]
    repeat (refine (Below.heap_setCell _ _ _ _ (by simp only; omega)).trans ?_)
    exact hg3
  have r0 : U.cell? ⟨w.heap.size + 1, 0, none⟩ = some (.string kk) := by rw [hU]; go_simp
  have r1 : U.cell? ⟨w.heap.size + 1, 1, none⟩ = some (.string ks) := by rw [hU]; go_simp
  have r2 : U.cell? ⟨w.heap.size + 1, 2, none⟩ = some (.string kn) := by rw [hU]; go_simp
  have r3 : U.cell? ⟨w.heap.size + 1, 3, none⟩ = some (.int .i64 ver) := by rw [hU]; go_simp
  have r4 : U.cell? ⟨w.heap.size + 1, 4, none⟩ = some (.string cls) := by rw [hU]; go_simp
  have r5 : U.cell? ⟨w.heap.size + 1, 5, none⟩ = some (.bool term) := by rw [hU]; go_simp
  have r6 : U.cell? ⟨w.heap.size + 1, 6, none⟩ = some (.bool best) := by rw [hU]; go_simp
  have r7 : U.cell? ⟨w.heap.size + 1, 7, none⟩ = some (.slice (some ⟨W.heap.size, 0, none⟩) l.length l.length) := by rw [hU]; go_simp
  clear hU
  refine bodyPost_ret (v := .agg #[.string kk, .string ks, .string kn, .int .i64 ver, .string cls, .bool term, .bool best, .slice (some ⟨W.heap.size, 0, none⟩) l.length l.length])
    (by simp [results, Try.results56, go_sem, r0, r1, r2, r3, r4, r5, r6, r7]) rfl ⟨_, rfl, ⟨W.heap.size, hWw, rfl, hgU⟩, hbU⟩
end Go.Proofs.Ythhfcambdmdgfaa

import Derived.Test.YtdcceaafiammfaaFdg
namespace Go.Proofs.Ytdcceaafiammfaa
open Go.RowKit Go.Shelf
set_option linter.unusedVariables false
set_option linter.unusedSimpArgs false
attribute [local go_sem] Oper.semAt_some
/-! ### No feed -/
theorem fgrow_nil (w : World) (k s n : ByteArray) : Calls Try.prog 53 #[.pointer none, .agg #[.string k, .string s, .string n]] w fun e w' => e = .returned (.tuple #[]) ∧ Below w.heap.size w w' := by
  have hB := Below.refl w.heap.size w
  go_enter Try.func53, Try.ntmps53
  go_wp2
  refine bodyPost_end (v := .tuple #[]) (by simp [results, Try.results53, go_sem]) rfl ?_
  exact ⟨rfl, hB.alloc (Nat.le_refl _) _⟩
theorem fdrop_nil (w : World) (i : Int) : Calls Try.prog 55 #[.pointer none, .int .i64 i] w fun e w' => e = .returned (.int .i64 1) ∧ Below w.heap.size w w' := by
  have hB := Below.refl w.heap.size w
  go_enter Try.func55, Try.ntmps55
  go_wp2_with (go_at_call 79; refine (fnone_nil _ _).mono ?_; rintro e w' ⟨rfl, hb⟩; have hB := bl_next hB hb; clear hb)
  go_ret
  exact ⟨rfl, hB⟩
theorem fcover_nil (w : World) (i : Int) : Calls Try.prog 25 #[.pointer none, .int .i64 i] w fun e w' => e = .returned (.int .i64 1) ∧ Below w.heap.size w w' := by
  have hB := Below.refl w.heap.size w
  go_enter Try.func25, Try.ntmps25
  go_wp2
  go_ret
  exact ⟨rfl, hB⟩
theorem ftell_nil (w : World) (i : Int) : Calls Try.prog 54 #[.pointer none, .int .i64 i] w fun e w' => e = .returned (.int .i64 1) ∧ Below w.heap.size w w' := by
  go_enter Try.func54, Try.ntmps54
  go_upto_region 1 with fail
  first | with_reducible refine name_wp ?_ | with_reducible refine name_calls ?_
  intro W hWeq
  have g0 : W.heap[w.heap.size]? = some (.cells #[.pointer none] 25) := by rw [hWeq]; repeat (first | (with_reducible exact blk_newAt _ _ (by simp)) | with_reducible refine blk_drew ?_ | with_reducible refine blk_dN ?_ _ | with_reducible refine blk_old ?_ _)
  have g1 : W.heap[w.heap.size + 1]? = some (.cells #[.int .i64 i] 3) := by rw [hWeq]; repeat (first | (with_reducible exact blk_newAt _ _ (by simp)) | with_reducible refine blk_drew ?_ | with_reducible refine blk_dN ?_ _ | with_reducible refine blk_old ?_ _)
  have g2 : W.heap[w.heap.size + 2]? = some (.cells #[.int .i64 0] 32) := by rw [hWeq]; repeat (first | (with_reducible exact blk_newAt _ _ (by simp)) | with_reducible refine blk_drew ?_ | with_reducible refine blk_dN ?_ _ | with_reducible refine blk_old ?_ _)
  have hw : Below w.heap.size w W := by rw [hWeq]; repeat (first | with_reducible exact Below.refl _ _ | with_reducible refine Below.drew ?_ | with_reducible refine bl_dN ?_ _ | with_reducible refine Below.alloc ?_ (by simp <;> omega) _)
  clear hWeq
  have hz : w.heap.size + 3 ≤ W.heap.size := by have := blk_lt g2; omega
  have c0_0 : W.cell? ⟨w.heap.size, 0, none⟩ = some (.pointer none) := blk_cell g0 0
  have f0 : ∀ j, W.frozen? ⟨w.heap.size, j, none⟩ = false := blk_free g0
  have c1_0 : W.cell? ⟨w.heap.size + 1, 0, none⟩ = some (.int .i64 i) := blk_cell g1 0
  have f1 : ∀ j, W.frozen? ⟨w.heap.size + 1, j, none⟩ = false := blk_free g1
  have c2_0 : W.cell? ⟨w.heap.size + 2, 0, none⟩ = some (.int .i64 0) := blk_cell g2 0
  have f2 : ∀ j, W.frozen? ⟨w.heap.size + 2, j, none⟩ = false := blk_free g2
  have hB : Below W.heap.size W W := Below.refl _ _
  have G0 := Lib.hid g0; clear g0
  have F0 := Lib.hid f0; clear f0
  have G1 := Lib.hid g1; clear g1
  have F1 := Lib.hid f1; clear f1
  have G2 := Lib.hid g2; clear g2
  have F2 := Lib.hid f2; clear f2
  have Hw := Lib.hid hw; clear hw
  go_wp2_with (go_at_call 79; refine (fnone_nil _ _).mono ?_; rintro e w' ⟨rfl, hb⟩; have hB := bl_next (by repeat (first | with_reducible exact hB | refine Below.alloc ?_ (by have := hB.size; simp; omega) _ | refine bl_dN ?_ _ | refine Below.drew ?_ | refine Below.setCell ?_ (by have := hB.size; simp; omega) _)) hb; clear hb; have k0_0 := cb hB c0_0; have k1_0 := cb hB c1_0; have k2_0 := cb hB c2_0; have kz0 : w.heap.size < _ := lt_of_cell k0_0; have kz1 : w.heap.size + 1 < _ := lt_of_cell k1_0; have kz2 : w.heap.size + 2 < _ := lt_of_cell k2_0; have kf0_0 := fb hB (lt_of_cell c0_0) (F0.out 0); have kf1_0 := fb hB (lt_of_cell c1_0) (F1.out 0); have kf2_0 := fb hB (lt_of_cell c2_0) (F2.out 0))
  have hw0 := bl_from Hw.out hB
  refine bodyPost_ret (v := .int .i64 1) (by simp [results, Try.results54, go_sem, k2_0]) rfl ⟨rfl, ?_⟩
  have q := bl_from Hw.out hB
  exact (by (repeat (first | exact Below.refl _ _ | exact hw0 | refine Below.setCell ?_ (by first | (simp; done) | (simp; omega)) _ | refine Below.alloc ?_ (by first | (simp; done) | (simp; omega)) _ | refine bl_dN ?_ _ | refine Below.drew ?_)))
theorem fsettledAll_nil (w : World) : Calls Try.prog 23 #[.pointer none] w fun e w' => e = .returned (.bool false) ∧ Below w.heap.size w w' := by
  have hB := Below.refl w.heap.size w
  go_enter Try.func23, Try.ntmps23
  go_wp2
  go_ret
  exact ⟨rfl, hB⟩
theorem fnums_nil (w : World) : Calls Try.prog 60 #[.pointer none, .int .i64 0] w fun e w' => e = .returned (.func (.func 80) #[] #[.pointer (some ⟨w.heap.size + 1, 0, none⟩), .pointer (some ⟨w.heap.size, 0, none⟩)]) ∧
    w'.cell? ⟨w.heap.size + 1, 0, none⟩ = some (.int .i64 0) ∧ w.heap.size + 2 ≤ w'.heap.size ∧ Below w.heap.size w w' := by
  have hB := Below.refl w.heap.size w
  have hmf : ∀ (fn : Fn) (first cap : Array Value) (w : World), (Instr.makeFunc fn first cap).run Try.prog w = .ok (.func fn first cap) w := fun _ _ _ _ => rfl
  go_enter Try.func60, Try.ntmps60
  go_wp2
  go_ret
  exact ⟨rfl, blk_cell (blk_new1 w _ _) 0, by simp, (hB.alloc (Nat.le_refl _) _).alloc (by simp) _⟩
theorem fnums0_in (n : Nat) (hn : 1 ≤ n) (l0 eb fx : Nat) (J Jx : List (Fin 0) → World → Prop)
    (W : World) (he : W.cell? ⟨eb, 0, none⟩ = some (.int .i64 0)) (h0 : J [] W) :
    CallsIn Fence.wide n Try.prog 80 #[.func (.yield l0) #[] #[], .pointer (some ⟨eb, 0, none⟩), .pointer (some ⟨fx, 0, none⟩)] W fun e W' => (∃ v, e = .returned v) ∧
      ((∃ ys, True ∧ J ys W') ∨ (∃ pre, False ∧ Jx pre W')) := by
  refine callsIn_of_wp Try.func80 rfl trivial ?_ rfl
  simp only [Try.ntmps80, List.size_toArray, List.length_cons, List.length_nil, Nat.reduceAdd, Nat.reduceSub, Array.replicate_succ, Array.replicate_zero, List.push_toArray, List.append_toArray, List.nil_append, List.cons_append]
  gi_wp2
  gi_loopw [4, 6] (fun _ i wr => i = .int .i64 0 ∧ J [] wr) (fun _ i _ => 0)
  case atStart => exact ⟨rfl, h0⟩
  case round =>
    obtain ⟨rfl, hJ⟩ := hrel
    gi_wp2
    go_end0
    exact ⟨⟨_, rfl⟩, .inl ⟨_, trivial, hJ⟩⟩
theorem fnums0_stops (n : Nat) (hn : 1 ≤ n) (eb fx : Nat) (w : World) (he : w.cell? ⟨eb, 0, none⟩ = some (.int .i64 0)) :
    SeqStopsK Fence.wide n Try.prog 80 #[.pointer (some ⟨eb, 0, none⟩), .pointer (some ⟨fx, 0, none⟩)] (fun i : Fin 0 => #[Value.int .i64 ((i.1 : Nat) : Int)]) (fun _ _ => True) (fun ys => True) (fun pre => False) 0 w :=
  fun l0 J Jx W hW _ _ _ h0 => fnums0_in n hn l0 eb fx J Jx W (cb hW he) h0
set_option maxRecDepth 100000 in
set_option maxHeartbeats 4000000 in
theorem fsafe_nil (w : World) : Calls Try.prog 21 #[.pointer none] w fun e w' => e = .returned (.int .i64 0) ∧ Below w.heap.size w w' := by
  refine (callsIn_wide (n := 6)).1 ?_
  refine callsIn_of_wp_marks Try.func21 rfl trivial ?_ rfl
  simp only [Try.ntmps21, List.size_toArray, List.length_cons, List.length_nil, Nat.reduceAdd, Nat.reduceSub, Array.replicate_succ, Array.replicate_zero, List.push_toArray, List.append_toArray, List.nil_append, List.cons_append]
  refine wpIn_wide.2 ?_
  go_upto_region 1 with fail
  first | with_reducible refine name_wp ?_ | with_reducible refine name_calls ?_
  intro W hWeq
  have g0 : W.heap[w.heap.size]? = some (.cells #[.int .i64 0] 2) := by rw [hWeq]; repeat (first | (with_reducible exact blk_newAt _ _ (by simp)) | with_reducible refine blk_drew ?_ | with_reducible refine blk_dN ?_ _ | with_reducible refine blk_old ?_ _)
  have hw : Below w.heap.size w W := by rw [hWeq]; repeat (first | with_reducible exact Below.refl _ _ | with_reducible refine Below.drew ?_ | with_reducible refine bl_dN ?_ _ | with_reducible refine Below.alloc ?_ (by simp <;> omega) _)
  clear hWeq
  have hz : w.heap.size + 1 ≤ W.heap.size := by have := blk_lt g0; omega
  have c0_0 : W.cell? ⟨w.heap.size, 0, none⟩ = some (.int .i64 0) := blk_cell g0 0
  have f0 : ∀ j, W.frozen? ⟨w.heap.size, j, none⟩ = false := blk_free g0
  have hB : Below W.heap.size W W := Below.refl _ _
  have G0 := Lib.hid g0; clear g0
  have F0 := Lib.hid f0; clear f0
  have Hw := Lib.hid hw; clear hw
  go_wp2_with (first | (go_at_call 20; refine (flen_nil _).mono ?_; rintro e w' ⟨rfl, hb⟩; have hB := bl_next hB hb; clear hb) | (go_at_call 60; refine (fnums_nil _).mono ?_; rintro e w' ⟨rfl, q1, qz, hb⟩; have hB := bl_next hB hb; clear hb))
  obtain ⟨V, rfl⟩ : ∃ V : World, V = w' := ⟨_, rfl⟩
  have hBz := Lib.hid (show w.heap.size + 1 ≤ V.heap.size by have := hB.size; omega)
  refine (wpIn_wide (n := 5)).1 ?_
  refine wpIn_rangeFunc_ownF rfl (by decide) (gf := 80) rfl trivial (enters_of Try.func80 (by kernel_rfl) rfl)
    (fnums0_stops 4 (by decide) _ _ V q1) (fun _ _ => trivial) (fun _ _ _ _ _ _ _ _ => trivial) (Below.refl _ _) (fun _ => rfl)
    (fun pre U => (U.cell? ⟨w.heap.size, 0, none⟩ = some (.int .i64 0) ∧ U.frozen? ⟨w.heap.size, 0, none⟩ = false) ∧ Below w.heap.size w U)
    (fun c pre U => False)
    ?hI ?hIx ?h0 ?a1 ?assign ?body ?done ?stop
  case assign =>
    intro l1 x U K hK
    exact x.elim0
  case a1 => exact fun x => x.elim0
  case hI =>
    exact OwnFrom.and (Own.from (fun s A B row hs hg hr => ⟨cell_kept hs.1 hg hr, (frozen_kept hs.1 hg hr).trans hs.2⟩) _) (ownFrom_below (Nat.le_refl _) (by have := hB.size; have := Hw.out.size; omega))
  case hIx =>
    intro c s A B row hs _ _
    exact hs.elim
  case h0 => exact ⟨⟨cb hB c0_0, fzb hB (lt_of_cell c0_0) (F0.out 0)⟩, bl_from Hw.out hB⟩
  case body =>
    intro l1 pre x
    exact x.elim0
  case done =>
    rintro D xs U hD hxs ⟨⟨hc, hf⟩, hbU⟩ hK
    have hB := Below.refl U.heap.size U
    go_wp2_with (go_at_call 20; refine (flen_nil _).mono ?_; rintro e w' ⟨rfl, hb⟩; have hf := fzb hb (lt_of_cell hc) hf; have hc := cb hb hc; have hB := bl_next hB hb; clear hb)
    have hVw : w.heap.size < V.heap.size := by have := lt_of_cell q1; have := hBz.out; omega
    have hK1 := (hB.block D (blk_lt hK)).trans hK
    have hK2 : (w'.setCell ⟨w.heap.size, 0, none⟩ (.int .i64 0)).heap[D]? = some (.deferred (some [])) := by rw [Below.heap_setCell _ _ _ _ (by simp; omega)]; exact hK1
    have hc2 : (w'.setCell ⟨w.heap.size, 0, none⟩ (.int .i64 0)).cell? ⟨w.heap.size, 0, none⟩ = some (.int .i64 0) := World.cell?_setCell_same' _ _ _ (by rw [hc]; rfl)
    have hc3 := cell_kept hc2 (grownBy_putObj' _ D (.deferred none)) (fun r e => by cases e; exact ⟨_, hK2, rfl⟩)
    refine ⟨by simp, .inl ⟨_, _, rfl, run_takeDeferred hK2, ?_⟩⟩
    refine ⟨.int .i64 0, by simp [results, Try.results21, go_sem, hc3], rfl, ?_⟩
    exact ((hbU.trans (hB.mono hbU.size)).setCell (Nat.le_refl _) _).grown (grownBy_putObj' _ D (.deferred none)) (by have := hbU.size; have := hB.size; simp; omega) (fun k e => by cases e; omega)
  case stop =>
    rintro D c pre U hD hsp hf _
    exact hf.elim
set_option maxRecDepth 100000 in
set_option maxHeartbeats 4000000 in
theorem fopen_nil (w : World) :
    Calls Try.prog 18 #[.pointer none] w fun e w' => e = .returned (.slice none 0 0) ∧ Below w.heap.size w w' := by
  refine (callsIn_wide (n := 6)).1 ?_
  refine callsIn_of_wp_marks Try.func18 rfl trivial ?_ rfl
  simp only [Try.ntmps18, List.size_toArray, List.length_cons, List.length_nil, Nat.reduceAdd, Nat.reduceSub, Array.replicate_succ, Array.replicate_zero, List.push_toArray, List.append_toArray, List.nil_append, List.cons_append]
  refine wpIn_wide.2 ?_
  go_upto_region 2 with fail
  first | with_reducible refine name_wp ?_ | with_reducible refine name_calls ?_
  intro W hWeq
  have g0 : W.heap[w.heap.size]? = some (.cells #[.pointer none] 25) := by rw [hWeq]; repeat (first | (with_reducible exact blk_newAt _ _ (by simp)) | with_reducible refine blk_drew ?_ | with_reducible refine blk_dN ?_ _ | with_reducible refine blk_old ?_ _)
  have g1 : W.heap[w.heap.size + 1]? = some (.cells #[.slice none 0 0] 29) := by rw [hWeq]; repeat (first | (with_reducible exact blk_newAt _ _ (by simp)) | with_reducible refine blk_drew ?_ | with_reducible refine blk_dN ?_ _ | with_reducible refine blk_old ?_ _)
  have hw : Below w.heap.size w W := by rw [hWeq]; repeat (first | with_reducible exact Below.refl _ _ | with_reducible refine Below.drew ?_ | with_reducible refine bl_dN ?_ _ | with_reducible refine Below.alloc ?_ (by simp <;> omega) _)
  clear hWeq
  have hz : w.heap.size + 2 ≤ W.heap.size := by have := blk_lt g1; omega
  have c0_0 : W.cell? ⟨w.heap.size, 0, none⟩ = some (.pointer none) := blk_cell g0 0
  have f0 : ∀ j, W.frozen? ⟨w.heap.size, j, none⟩ = false := blk_free g0
  have c1_0 : W.cell? ⟨w.heap.size + 1, 0, none⟩ = some (.slice none 0 0) := blk_cell g1 0
  have f1 : ∀ j, W.frozen? ⟨w.heap.size + 1, j, none⟩ = false := blk_free g1
  have hB : Below W.heap.size W W := Below.refl _ _
  have G0 := Lib.hid g0; clear g0
  have F0 := Lib.hid f0; clear f0
  have G1 := Lib.hid g1; clear g1
  have F1 := Lib.hid f1; clear f1
  have Hw := Lib.hid hw; clear hw
  have hB := hB.drew
  refine region_seqN (fun w' => Below W.heap.size W w') [(0, true), (1, true), (2, false), (3, false)] (by kernel_rfl) (by kernel_rfl) hB ?_
  try generalize World.drew _ = wS at hB ⊢
  refine seq_take (v := ?_) (a' := ?_) (some 5) rfl rfl (by rfl) ?_ ?_ ?_
  rotate_left; rotate_left
  · intro w' hS; have s0_0 := cb hS c0_0; have s1_0 := cb hS c1_0; go_simp; with_reducible rfl
  · simp only [Act.put, List.setIfInBounds_toArray, List.set_cons_zero, List.set_cons_succ]; rfl
  refine seq_take (v := ?_) (a' := ?_) (some 6) rfl rfl (by rfl) ?_ ?_ ?_
  rotate_left; rotate_left
  · intro w' hS; have s0_0 := cb hS c0_0; have s1_0 := cb hS c1_0; go_simp; with_reducible rfl
  · simp only [Act.put, List.setIfInBounds_toArray, List.set_cons_zero, List.set_cons_succ]; rfl
  refine seq_call (args := ?_) Try.func20 (by kernel_rfl) rfl (some 7) rfl rfl (by rfl) rfl ?_ ?_
  rotate_left
  · simp only [List.map_toArray, List.map_cons, List.map_nil]; go_simp; rfl
  with_reducible refine (flen_nil _).mono ?_
  rintro e w' ⟨rfl, hb⟩
  refine ⟨_, rfl, bl_next (by repeat (first | with_reducible exact hB | refine Below.alloc ?_ (by have := hB.size; simp; omega) _ | refine bl_dN ?_ _ | refine Below.drew ?_ | refine Below.setCell ?_ (by have := hB.size; simp; omega) _)) hb, ?_⟩
  have hB := bl_next (by repeat (first | with_reducible exact hB | refine Below.alloc ?_ (by have := hB.size; simp; omega) _ | refine bl_dN ?_ _ | refine Below.drew ?_ | refine Below.setCell ?_ (by have := hB.size; simp; omega) _)) hb; clear hb
  simp only [Act.put, List.setIfInBounds_toArray, List.set_cons_zero, List.set_cons_succ]
  refine seq_call (args := ?_) Try.func60 (by kernel_rfl) rfl (some 8) rfl rfl (by rfl) rfl ?_ ?_
  rotate_left
  · simp only [List.map_toArray, List.map_cons, List.map_nil]; go_simp; rfl
  with_reducible refine (fnums_nil _).mono ?_
  rintro e w' ⟨rfl, q1, qz, hb⟩
  have hBq := hB.size
  refine ⟨_, rfl, bl_next (by repeat (first | with_reducible exact hB | refine Below.alloc ?_ (by have := hB.size; simp; omega) _ | refine bl_dN ?_ _ | refine Below.drew ?_ | refine Below.setCell ?_ (by have := hB.size; simp; omega) _)) hb, ?_⟩
  have hB := bl_next (by repeat (first | with_reducible exact hB | refine Below.alloc ?_ (by have := hB.size; simp; omega) _ | refine bl_dN ?_ _ | refine Below.drew ?_ | refine Below.setCell ?_ (by have := hB.size; simp; omega) _)) hb; clear hb
  simp only [Act.put, List.setIfInBounds_toArray, List.set_cons_zero, List.set_cons_succ]
  refine seqN_done ?_
  obtain ⟨V, rfl⟩ : ∃ V : World, V = w' := ⟨_, rfl⟩
  go_wp2_with fail
  have hWz := Hw.out.size
  generalize w'.heap.size = fx at q1 hBq
  refine (wpIn_wide (n := 5)).1 ?_
  have k1_0 := cb hB c1_0
  refine wpIn_rangeFunc_ownF rfl (by decide) (gf := 80) rfl trivial (enters_of Try.func80 (by kernel_rfl) rfl)
    (fnums0_stops 4 (by decide) _ _ V q1) (fun _ _ => trivial) (fun _ _ _ _ _ _ _ _ => trivial) (Below.refl _ _) (fun _ => rfl)
    (fun pre U => U.cell? ⟨w.heap.size + 1, 0, none⟩ = some (.slice none 0 0) ∧ Below w.heap.size w U)
    (fun c pre U => False)
    ?hI ?hIx ?h0 ?a1 ?assign ?body ?done ?stop
  case assign =>
    intro l1 x U K hK
    exact x.elim0
  case a1 => exact fun x => x.elim0
  case hI =>
    exact OwnFrom.and (Own.from (fun s A B row hs hg hr => cell_kept hs hg hr) _) (ownFrom_below (Nat.le_refl _) (by have := hB.size; have := Hw.out.size; omega))
  case hIx =>
    intro c s A B row hs _ _
    exact hs.elim
  case h0 => exact ⟨k1_0, bl_from Hw.out hB⟩
  case body =>
    intro l1 pre x
    exact x.elim0
  case done =>
    rintro D xs U hD hxs ⟨hc, hbU⟩ hK
    go_wp2
    have hVw : w.heap.size + 2 ≤ V.heap.size := by have := hB.size; omega
    refine ⟨by simp, .inl ⟨_, _, rfl, run_takeDeferred hK, ?_⟩⟩
    exact ⟨_, results_tmp rfl _ _ _, rfl, hbU.grown (grownBy_putObj' _ D (.deferred none)) hbU.size (fun k e => by cases e; omega)⟩
  case stop =>
    rintro D c pre U hD hsp hf _
    exact hf.elim
end Go.Proofs.Ytdcceaafiammfaa

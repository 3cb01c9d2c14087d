import Derived.Test.YtdcceaafiammfaaProg
import Derived.Test.YtdcceaafiammfaaFdb
import Derived.Test.YtdcceaafiammfaaSeqL
namespace Go.Proofs.Ytdcceaafiammfaa
open Go.RowKit
set_option linter.unusedVariables false
set_option linter.unusedSimpArgs false
theorem info_item : (Try.prog.info? 80).map (fun i => (i.zero, i.size, i.bytes)) = some (some (.agg #[.string ⟨#[]⟩, .string ⟨#[]⟩, .string ⟨#[]⟩, .int .i64 0]), 4, 56) := by kernel_rfl
/-- 'items = append(items, item{..})', the new one lying in a block of its own. -/
theorem app_item {o : Oper} {a : Act} {K : Act → World → Prop} {Q : Exit → Act → World → Prop} {w : World} (s x : Operand)
    (ho : o.op = .call { callee := .builtin .append, args := #[s, x], argTypes := #[74, 74] })
    (v : Value) (l : List Item) (hs : a.eval s = v) (hrow : OwnN w 80 4 v l.length (itemsC l)) (y : Item) (g c : Nat) (hx : a.eval x = .slice (some ⟨g, 0, none⟩) 1 c)
    (hcells : w.heap[g]? = some (.cells (itemC y).toArray 80)) (hl : l.length ≤ 1000000) (base : Nat) (hbase : ∀ k, v.ownBlock = some k → base ≤ k) (hbz : base ≤ w.heap.size)
    (h : ∀ v' w', OwnN w' 80 4 v' (l ++ [y]).length (itemsC (l ++ [y])) → (∀ k, v'.ownBlock = some k → base ≤ k) → w.grownBy w' v.ownBlock → K (a.put o.dst v') w') : o.wp Try.prog a w K Q := by
  have hrowB : w.ownsRow base 80 4 v l.length (itemsC l) := by
    refine ⟨hrow.1, ?_⟩
    rcases hrow.2 with h0 | ⟨g, cap, cur, hv, hg, r⟩
    · exact .inl h0
    · exact .inr ⟨g, cap, cur, hv, hbase g (by rw [hv]; rfl), r⟩
  obtain ⟨i0, hi, hz0, hz1, hz2⟩ := info_parts info_item
  refine wp_append_own w s x _ ho base _ i0 (.agg #[.string ⟨#[]⟩, .string ⟨#[]⟩, .string ⟨#[]⟩, .int .i64 0]) 4 56 Try.underlying74 hi hz0 hz1 hz2 rfl (by decide) v l.length (itemsC l) hs hrowB ⟨g, 0, none⟩ 1 c (itemC y) hx rfl ?_ ?_ (by unfold maxLen; omega) (by omega) hbz ?_
  · intro j u hj
    have e0 : (⟨g, 0, none⟩ : Addr).add j = ⟨g, j, none⟩ := by unfold Addr.add; split <;> simp_all
    rw [e0, blk_cell hcells j]; simpa using hj
  · intro u hu
    simp only [itemC, List.mem_cons, List.not_mem_nil, or_false] at hu
    rcases hu with rfl | rfl | rfl | rfl <;> rfl
  · intro v' w' h1 h2 _
    rw [itemsC_app] at h1
    refine h v' w' ?_ (fun k hk => (World.ownsRow.lt h1 k hk).1) h2
    rw [List.length_append]
    refine ⟨h1.1, ?_⟩
    rcases h1.2 with h0 | ⟨g, cap, cur, hv, hg, r⟩
    · exact .inl h0
    · exact .inr ⟨g, cap, cur, hv, Nat.zero_le _, r⟩
theorem row_apart {w : World} {v : Value} {n fb : Nat} {xs cs : List Value} {c2 : Array Value} (h : OwnN w 80 4 v n xs) (hb : w.heap[fb]? = some (.cells c2 76)) : ∀ k, v.ownBlock = some k → k ≠ fb := by
  intro k hk e
  subst e
  rcases h.2 with ⟨rfl, _⟩ | ⟨g, cap, cur, rfl, _, hh, _⟩
  · cases hk
  · cases hk
    rw [hh] at hb
    cases hb
set_option maxHeartbeats 4000000 in
set_option maxRecDepth 100000 in
theorem fgrow_calls {fb : Nat} {v : Value} {l : List Item} {cov : Nat} (w : World) (h : FeedAt w fb v l cov) (hl : l.length ≤ 1000000) (k s n : ByteArray) (base : Nat) (hbase : ∀ b, feedX fb v b → base ≤ b) :
    Calls Try.prog 53 #[.pointer (some ⟨fb, 0, none⟩), .agg #[.string k, .string s, .string n]] w fun e w' => e = .returned (.tuple #[]) ∧ ∃ v', FeedAt w' fb v' (l ++ [⟨k, s, n, 0⟩]) cov ∧ Kept (feedX fb v) w w' ∧ ∀ b, feedX fb v' b → base ≤ b := by
  obtain ⟨ao, cap, rfl⟩ := h.v0
  have H := Lib.hid h
  have hfz := h.lt fb (.inl rfl)
  have hbz : base ≤ w.heap.size := by have := hbase fb (.inl rfl); omega
  have HBASE := Lib.hid hbase
  clear h hbase
  go_enter Try.func53, Try.ntmps53
  go_upto_region 2 with fail
  first | with_reducible refine name_wp ?_ | with_reducible refine name_calls ?_
  intro W hWeq
  have g0 : W.heap[w.heap.size]? = some (.cells #[.string k, .string s, .string n] 35) := by rw [hWeq]; repeat (first | (with_reducible exact blk_newAt _ _ (by simp)) | with_reducible refine blk_drew ?_ | with_reducible refine blk_dN ?_ _ | with_reducible refine blk_old ?_ _)
  have hw : Below w.heap.size w W := by rw [hWeq]; repeat (first | with_reducible exact Below.refl _ _ | with_reducible refine Below.drew ?_ | with_reducible refine bl_dN ?_ _ | with_reducible refine Below.alloc ?_ (by simp <;> omega) _)
  clear hWeq
  have hz : w.heap.size + 1 ≤ W.heap.size := by have := blk_lt g0; omega
  have c0_0 : W.cell? ⟨w.heap.size, 0, none⟩ = some (.string k) := blk_cell g0 0
  have c0_1 : W.cell? ⟨w.heap.size, 1, none⟩ = some (.string s) := blk_cell g0 1
  have c0_2 : W.cell? ⟨w.heap.size, 2, none⟩ = some (.string n) := blk_cell g0 2
  have f0 : ∀ j, W.frozen? ⟨w.heap.size, j, none⟩ = false := blk_free g0
  have hB : Below W.heap.size W W := Below.refl _ _
  have G0 := Lib.hid g0; clear g0
  have F0 := Lib.hid f0; clear f0
  have Hw := Lib.hid hw; clear hw
  have HW := H.out.below Hw.out
  have c1 := blk_cell HW.box 0
  have cf := blk_free HW.box 0
  have hWz : fb < W.heap.size := blk_lt HW.box
  have HR := Lib.hid HW
  clear HW
  have sof := Lib.hid (show ∀ w', Below W.heap.size W w' → (w'.cell? ⟨fb, 0, none⟩ = some (.slice ao l.length cap) ∧ w'.cell? ⟨w.heap.size, 0, none⟩ = some (.string k) ∧ w'.cell? ⟨w.heap.size, 1, none⟩ = some (.string s) ∧ w'.cell? ⟨w.heap.size, 2, none⟩ = some (.string n)) from fun w' hb => ⟨cb hb c1, cb hb c0_0, cb hb c0_1, cb hb c0_2⟩)
  have hkx : ∀ b, (Value.slice ao l.length cap).ownBlock = some b → b < w.heap.size ∧ b ≠ fb := fun b hb => ⟨(H.out.lt b (.inr hb)), H.out.apart b hb⟩
  have HKX := Lib.hid hkx
  have hB1 := Lib.hid hB.drew
  have hB2 := Lib.hid (show Below W.heap.size W (W.alloc (.cells #[.string k, .string s, .string n, .int .i64 0] 80)).drew from (hB.alloc (Nat.le_refl _) _).drew)
  have HG0 := G0
  clear G0 F0 hkx c0_0 c0_1 c0_2
  refine region_seqL (fun w' => w'.cell? ⟨fb, 0, none⟩ = some (.slice ao l.length cap) ∧ w'.cell? ⟨w.heap.size, 0, none⟩ = some (.string k) ∧ w'.cell? ⟨w.heap.size, 1, none⟩ = some (.string s) ∧ w'.cell? ⟨w.heap.size, 2, none⟩ = some (.string n)) 11 [(0, true), (1, true), (2, true), (3, true), (4, true), (5, true), (6, true), (7, false), (8, false), (9, true), (10, true), (11, false)] (by kernel_rfl) (by kernel_rfl) (fun _ _ _ _ h => h) (by (try exact sof.out _ hB1.out); (try exact sof.out _ hB2.out)) ?_
  refine sl_take (v := ?_) (a' := ?_) (some 6) rfl rfl (by rfl) ?_ ?_ ?_
  rotate_left; rotate_left
  · intro w' hS; go_simp; with_reducible rfl
  · simp only [Act.put, List.setIfInBounds_toArray, List.set_cons_zero, List.set_cons_succ]; rfl
  refine sl_take (v := ?_) (a' := ?_) (some 7) rfl rfl (by rfl) ?_ ?_ ?_
  rotate_left; rotate_left
  · intro w' hS; go_simp; with_reducible rfl
  · simp only [Act.put, List.setIfInBounds_toArray, List.set_cons_zero, List.set_cons_succ]; rfl
  refine sl_take (v := ?_) (a' := ?_) (some 8) rfl rfl (by rfl) ?_ ?_ ?_
  rotate_left; rotate_left
  · intro w' hS; go_simp; with_reducible rfl
  · simp only [Act.put, List.setIfInBounds_toArray, List.set_cons_zero, List.set_cons_succ]; rfl
  refine sl_take (v := ?_) (a' := ?_) (some 9) rfl rfl (by rfl) ?_ ?_ ?_
  rotate_left; rotate_left
  · intro w' hS; go_simp; with_reducible rfl
  · simp only [Act.put, List.setIfInBounds_toArray, List.set_cons_zero, List.set_cons_succ]; rfl
  refine sl_take (v := ?_) (a' := ?_) (some 10) rfl rfl (by rfl) ?_ ?_ ?_
  rotate_left; rotate_left
  · intro w' hS; obtain ⟨q0, q1, q2, q3⟩ := hS; go_simp; with_reducible rfl
  · simp only [Act.put, List.setIfInBounds_toArray, List.set_cons_zero, List.set_cons_succ]; rfl
  refine sl_take (v := ?_) (a' := ?_) (some 11) rfl rfl (by rfl) ?_ ?_ ?_
  rotate_left; rotate_left
  · intro w' hS; obtain ⟨q0, q1, q2, q3⟩ := hS; go_simp; with_reducible rfl
  · simp only [Act.put, List.setIfInBounds_toArray, List.set_cons_zero, List.set_cons_succ]; rfl
  refine sl_take (v := ?_) (a' := ?_) (some 12) rfl rfl (by rfl) ?_ ?_ ?_
  rotate_left; rotate_left
  · intro w' hS; go_simp; with_reducible rfl
  · simp only [Act.put, List.setIfInBounds_toArray, List.set_cons_zero, List.set_cons_succ]; rfl
  refine sl_op (some 13) rfl rfl (by rfl) ?_
  apply Exists.intro; apply Exists.intro; apply And.intro
  · go_simp; first | exact ⟨rfl, rfl⟩ | rfl
  apply Exists.intro; apply And.intro
  · simp only [Act.put, List.setIfInBounds_toArray, List.set_cons_zero, List.set_cons_succ]; rfl
  apply And.intro
  · (try exact sof.out _ hB1.out); (try exact sof.out _ hB2.out)
  refine sl_law rfl (by rfl) ?_
  refine app_item _ _ rfl _ l rfl (ownN_kept HR.out.row (kept_of_below (X := fun _ => False) hB2.out) (fun _ _ q => q)) ⟨k, s, n, 0⟩ W.heap.size 1 rfl (blk_drew (blk_new W _)) hl base (fun b hb => HBASE.out b (.inr hb)) (by have := hB.size; have := Hw.out.size; simp; omega) ?_
  intro v' w1 hrow hbase' hgrow; have GR := Lib.hid (show (W.alloc (.cells #[.string k, .string s, .string n, .int .i64 0] 80)).drew.grownBy w1 (Value.slice ao l.length cap).ownBlock from hgrow); clear hgrow; have qs := sof.out _ hB2.out; have nf : some fb ≠ (Value.slice ao l.length cap).ownBlock := fun e => (HKX.out fb e.symm).2 rfl; have nw : some w.heap.size ≠ (Value.slice ao l.length cap).ownBlock := fun e => Nat.lt_irrefl _ (HKX.out _ e.symm).1; have d0 := GR.out.cell qs.1 nf; have d1 := GR.out.cell qs.2.1 nw; have d2 := GR.out.cell qs.2.2.1 nw; have d3 := GR.out.cell qs.2.2.2 nw; have df : w1.frozen? ⟨fb, 0, none⟩ = false := (World.frozen?_of_block (a := ⟨fb, 0, none⟩) (GR.out.block fb (by have := hB2.out.size; omega) nf)).trans (fzb hB2.out (a := ⟨fb, 0, none⟩) hWz cf); have NF := Lib.hid nf; clear nf nw qs; refine ⟨.inr ⟨d0, d1, d2, d3⟩, ?_⟩; clear d1 d2 d3; obtain ⟨gg, capp, rfl, _⟩ := ownN_cells hrow (by simp)
  simp only [Act.put, List.setIfInBounds_toArray, List.set_cons_zero, List.set_cons_succ]
  refine sl_take (v := ?_) (a' := ?_) (some 15) rfl rfl (by rfl) ?_ ?_ ?_
  rotate_left; rotate_left
  · intro w' hS; go_simp; with_reducible rfl
  · simp only [Act.put, List.setIfInBounds_toArray, List.set_cons_zero, List.set_cons_succ]; rfl
  refine sl_take (v := ?_) (a' := ?_) (some 16) rfl rfl (by rfl) ?_ ?_ ?_
  rotate_left; rotate_left
  · intro w' hS; go_simp; with_reducible rfl
  · simp only [Act.put, List.setIfInBounds_toArray, List.set_cons_zero, List.set_cons_succ]; rfl
  refine sl_last none rfl rfl (by rfl) ?_
  apply Exists.intro; apply And.intro
  · go_simp; first | exact ⟨rfl, rfl⟩ | rfl
  apply Exists.intro; apply And.intro
  · simp only [Act.put, List.setIfInBounds_toArray, List.set_cons_zero, List.set_cons_succ]; rfl
  refine sl_done ?_
  go_wp2_with fail
  refine bodyPost_end (v := .tuple #[]) (by simp [results, Try.results53, go_sem]) rfl ?_
  have hbox : w1.heap[fb]? = some (.cells #[.slice ao l.length cap, .int .i64 cov] 76) := by
    rw [GR.out.block fb (by have := hB2.out.size; omega) NF.out]
    exact blk_below HR.out.box hB2.out
  have el : (l ++ [(⟨k, s, n, 0⟩ : Item)]).length = l.length + 1 := by simp
  rw [el] at hrow hbase'
  refine ⟨rfl, _, ⟨heap_setCell_same w1 fb 0 _ _ _ hbox, ?_, ?_⟩, ?_, ?_⟩
  · rw [el]; exact ownN_kept hrow (X := fun k => k = fb) ((Kept.refl _ w1).setCell _ _ (.inl rfl)) (fun k hk => row_apart (cs := []) hrow hbox k hk)
  · exact row_apart (cs := []) hrow hbox
  · refine Kept.setCell ?_ _ _ (.inl (.inl rfl))
    exact (kept_of_below (bl_from Hw.out hB2.out)).grown GR.out (fun b hb => .inl (.inr hb))
  · intro b hb
    rcases hb with rfl | hb
    · exact HBASE.out _ (.inl rfl)
    · exact hbase' b hb
end Go.Proofs.Ytdcceaafiammfaa

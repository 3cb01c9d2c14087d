import Derived.RangeFuncNested
import Derived.RangeFuncBound
import Derived.RangeFuncCalls
import Derived.RangeFuncLeaves
import Derived.RangeFuncBox
import Derived.Shelf.Abstract
import Derived.Shelf.RegionOpen
import Derived.WalkKit
import Derived.OwnWalkIn
import Derived.TacticsInMore
import Derived.LoopNIn
import Derived.LoopIn
import Derived.Test.YtdcceaafiammfaaProg
import Derived.Test.YtdcceaafiammfaaFdb
namespace Go.Proofs.Ytdcceaafiammfaa
open Go.RowKit Go.Shelf
set_option linter.unusedVariables false
set_option linter.unusedSimpArgs false
attribute [local go_sem] Oper.semAt_some
/-- The numbers below k of those that are not settled. -/
def openTo (l : List Item) (cov k : Nat) : List Nat := (List.range k).filter fun i => !stB l cov i
theorem openTo_succ (l : List Item) (cov k : Nat) : openTo l cov (k + 1) = if stB l cov k then openTo l cov k else openTo l cov k ++ [k] := by
  unfold openTo
  rw [List.range_succ, List.filter_append]
  cases h : stB l cov k <;> simp [h]
theorem openTo_length (l : List Item) (cov k : Nat) : (openTo l cov k).length ≤ k := by
  unfold openTo
  have := List.length_filter_le (fun i => !stB l cov i) (List.range k)
  simpa using this
set_option maxRecDepth 100000 in
set_option maxHeartbeats 2000000 in
theorem fnums1_in (n : Nat) (hn : 1 ≤ n) (l0 eb fx n₀ fb E : Nat) (v : Value) (l : List Item) (cov : Nat) (hE : E ≤ l.length) (hl : l.length ≤ 1000000) (J Jx : List (Fin E) → World → Prop) (B : Nat) (hJ : AbidesFrom B J)
    (hY : ∀ pre x W, J pre W → pre.length < E → YieldAt Fence.wide (n - 1) Try.prog l0 #[.int .i64 ((x.1 : Nat) : Int)] W fun e W' => (e = .returned (.bool true) ∧ J (pre ++ [x]) W' ∧ Below n₀ W W') ∨ (e = .returned (.bool false) ∧ Jx (pre ++ [x]) W'))
    (W : World) (he : W.cell? ⟨eb, 0, none⟩ = some (.int .i64 E)) (hf : W.cell? ⟨fx, 0, none⟩ = some (.pointer (some ⟨fb, 0, none⟩))) (hF : FeedAt W fb v l cov) (hn₀ : n₀ ≤ W.heap.size) (hx1 : eb < n₀) (hx2 : fx < n₀) (hx3 : ∀ k, feedX fb v k → k < n₀) (h0 : J [] W) :
    CallsIn Fence.wide n Try.prog 80 #[.func (.yield l0) #[] #[], .pointer (some ⟨eb, 0, none⟩), .pointer (some ⟨fx, 0, none⟩)] W fun e W' => (∃ v, e = .returned v) ∧
      ((∃ ys, ys.map (·.1) = openTo l cov E ∧ J ys W') ∨ (∃ pre, (∃ k, k < E ∧ stB l cov k = false ∧ pre.map (·.1) = openTo l cov (k + 1)) ∧ Jx pre W')) := by
  refine callsIn_of_wp Try.func80 rfl trivial ?_ rfl
  simp only [Try.ntmps80, List.size_toArray, List.length_cons, List.length_nil, Nat.reduceAdd, Nat.reduceSub, Array.replicate_succ, Array.replicate_zero, List.push_toArray, List.append_toArray, List.nil_append, List.cons_append]
  gi_wp2
  gi_loopw [4, 6] (fun _ i wr => ∃ (k : Nat) (ys : List (Fin E)), k ≤ E ∧ i = .int .i64 k ∧ ys.map (·.1) = openTo l cov k ∧ J ys wr ∧ Below n₀ W wr) (fun _ i _ => E - (intOf i).toNat)
  case atStart => exact ⟨0, [], Nat.zero_le _, rfl, rfl, h0, Below.refl _ _⟩
  case round =>
    obtain ⟨k, ys, hk, rfl, hys, hJs, hnx⟩ := hrel
    have HYS := Lib.hid hys
    have hysl : ys.length ≤ k := by have := congrArg List.length hys; rw [List.length_map] at this; rw [this]; exact openTo_length l cov k
    clear hys
    have hfc : wr.cell? ⟨fx, 0, none⟩ = some (.pointer (some ⟨fb, 0, none⟩)) := (hnx.cell (p := ⟨fx, 0, none⟩) hx2).trans hf
    have hFr : FeedAt wr fb v l cov := hF.kept (X := fun k => n₀ ≤ k) ⟨hnx.os, hnx.tape, hnx.output, hnx.size, fun k hk hq => hnx.block k (by omega)⟩ (fun k hk hq => by have := hx3 k hk; omega)
    by_cases hlt : k < E
    · have hkl : k < l.length := by omega
      have hkI : (k : Int) < E := by omega
      obtain ⟨sb, hsb⟩ : ∃ sb, stB l cov k = sb := ⟨_, rfl⟩
      have HSB := Lib.hid hsb
      have HFR := Lib.hid hFr
      have hwz : n₀ ≤ wr.heap.size := by have := hnx.size; omega
      cases sb with
      | true =>
        clear hsb hFr
        gi_wp2_with (refine ⟨trivial, ?_⟩; gi_at_call 62; refine (callsIn_wide.2 (fsettled_calls _ HFR.out k hkl hl)).mono ?_; rintro e w' ⟨rfl, hb⟩; rw [HSB.out])
        have hJ1 := hJ _ _ _ none hJs ⟨hb.os, hb.tape, hb.output, hb.size, fun k hk _ => hb.block k hk⟩ (fun r e => by cases e)
        have hnx1 : Below n₀ W w' := hnx.trans (hb.mono hwz)
        refine ⟨fun _ h => (by cases h), ?_⟩
        gi_wp2
        go_roundw
        case rel => exact ⟨k + 1, ys, by omega, by simp, by rw [openTo_succ, HSB.out, HYS.out]; rfl, hJ1, hnx1⟩
        case measure => simp [intOf]; omega
      | false =>
        clear hsb hFr
        have hlen := openTo_length l cov k
        gi_wp2_with (refine ⟨trivial, ?_⟩; gi_at_call 62; refine (callsIn_wide.2 (fsettled_calls _ HFR.out k hkl hl)).mono ?_; rintro e w' ⟨rfl, hb⟩; rw [HSB.out]; have hJ1 := hJ _ _ _ none hJs ⟨hb.os, hb.tape, hb.output, hb.size, fun k hk _ => hb.block k hk⟩ (fun r e => by cases e); obtain ⟨fn, tmps, assign, body, hy, hR⟩ := hY _ ⟨k, hlt⟩ w' hJ1 (by omega); dsimp only at hy)
        have hnx1 : Below n₀ W w' := hnx.trans (hb.mono hwz)
        refine hR.mono ?_
        rintro e W3 (⟨rfl, hJ3, hk3⟩ | ⟨rfl, hJx3⟩)
        · gi_wp2
          go_roundw
          case rel => exact ⟨k + 1, ys ++ [⟨k, hlt⟩], by omega, by simp, by rw [openTo_succ, HSB.out, List.map_append, HYS.out]; rfl, hJ3, hnx1.trans hk3⟩
          case measure => simp [intOf]; omega
        · gi_wp2
          refine bodyPost_ret (results_none rfl _ _ _) rfl ?_
          exact ⟨⟨_, rfl⟩, .inr ⟨_, ⟨k, hlt, HSB.out, by rw [openTo_succ, HSB.out, List.map_append, HYS.out]; rfl⟩, hJx3⟩⟩
    · obtain rfl : k = E := by omega
      gi_wp2
      go_end0
      exact ⟨⟨_, rfl⟩, .inl ⟨_, HYS.out, hJs⟩⟩
theorem fnums_calls (w : World) (fb E : Nat) : Calls Try.prog 60 #[.pointer (some ⟨fb, 0, none⟩), .int .i64 E] w fun e w' => e = .returned (.func (.func 80) #[] #[.pointer (some ⟨w.heap.size + 1, 0, none⟩), .pointer (some ⟨w.heap.size, 0, none⟩)]) ∧
    w'.cell? ⟨w.heap.size, 0, none⟩ = some (.pointer (some ⟨fb, 0, none⟩)) ∧ w'.cell? ⟨w.heap.size + 1, 0, none⟩ = some (.int .i64 E) ∧ w.heap.size + 2 ≤ w'.heap.size ∧ Below w.heap.size w w' := by
  have hB := Below.refl w.heap.size w
  have hmf : ∀ (fn : Fn) (first cap : Array Value) (w : World), (Instr.makeFunc fn first cap).run Try.prog w = .ok (.func fn first cap) w := fun _ _ _ _ => rfl
  go_enter Try.func60, Try.ntmps60
  go_wp2
  go_ret
  exact ⟨rfl, blk_cell (blk_old (blk_new w _) _) 0, blk_cell (blk_new1 w _ _) 0, by simp, (hB.alloc (Nat.le_refl _) _).alloc (by simp) _⟩
theorem fnums_stops (n : Nat) (hn : 1 ≤ n) (eb fx n₀ fb E : Nat) (v : Value) (l : List Item) (cov : Nat) (hE : E ≤ l.length) (hl : l.length ≤ 1000000)
    (w : World) (he : w.cell? ⟨eb, 0, none⟩ = some (.int .i64 E)) (hf : w.cell? ⟨fx, 0, none⟩ = some (.pointer (some ⟨fb, 0, none⟩))) (hF : FeedAt w fb v l cov) (hn₀ : n₀ ≤ w.heap.size) (hx1 : eb < n₀) (hx2 : fx < n₀) (hx3 : ∀ k, feedX fb v k → k < n₀) :
    SeqStopsK Fence.wide n Try.prog 80 #[.pointer (some ⟨eb, 0, none⟩), .pointer (some ⟨fx, 0, none⟩)] (fun i : Fin E => #[Value.int .i64 ((i.1 : Nat) : Int)]) (Below n₀) (fun ys => ys.map (·.1) = openTo l cov E) (fun pre => ∃ k, k < E ∧ stB l cov k = false ∧ pre.map (·.1) = openTo l cov (k + 1)) E w :=
  fun l0 J Jx W hW hJ hJx hY h0 =>
    fnums1_in n hn l0 eb fx n₀ fb E v l cov hE hl J Jx _ hJ hY W (cb hW he) (cb hW hf) (hF.below hW) (Nat.le_trans hn₀ hW.size) hx1 hx2 hx3 h0
def safeN (l : List Item) (cov : Nat) : Nat := ((List.range l.length).find? fun i => !stB l cov i).getD l.length
theorem safe_all {l : List Item} {cov : Nat} (h : openTo l cov l.length = []) : safeN l cov = l.length := by
  unfold safeN
  have : (List.range l.length).find? (fun i => !stB l cov i) = none := by
    rw [List.find?_eq_none]
    intro x hx hq
    have : x ∈ openTo l cov l.length := List.mem_filter.2 ⟨hx, hq⟩
    rw [h] at this; cases this
  rw [this]; rfl
theorem safe_first {l : List Item} {cov k : Nat} (hk : k < l.length) (hs : stB l cov k = false) (h : openTo l cov k = []) : safeN l cov = k := by
  unfold safeN
  have e : (List.range l.length).find? (fun i => !stB l cov i) = some k := by
    rw [List.find?_range_eq_some]
    refine ⟨by simp [hs], by simpa using hk, fun j hj => ?_⟩
    cases hq : stB l cov j with
    | true => rfl
    | false =>
      exfalso
      have : j ∈ openTo l cov k := List.mem_filter.2 ⟨List.mem_range.2 hj, by simp [hq]⟩
      rw [h] at this; cases this
  rw [e]; rfl
set_option maxRecDepth 100000 in
set_option maxHeartbeats 4000000 in
theorem fsafe_calls {fb : Nat} {v : Value} {l : List Item} {cov : Nat} (w : World) (h : FeedAt w fb v l cov) (hl : l.length ≤ 1000000) : Calls Try.prog 21 #[.pointer (some ⟨fb, 0, none⟩)] w fun e w' => e = .returned (.int .i64 (safeN l cov)) ∧ Below w.heap.size w w' := by
  have H := Lib.hid h
  have hlt := Lib.hid h.lt
  clear h
  refine (callsIn_wide (n := 6)).1 ?_
  refine callsIn_of_wp_marks Try.func21 rfl trivial ?_ rfl
  simp only [Try.ntmps21, List.size_toArray, List.length_cons, List.length_nil, Nat.reduceAdd, Nat.reduceSub, Array.replicate_succ, Array.replicate_zero, List.push_toArray, List.append_toArray, List.nil_append, List.cons_append]
  refine wpIn_wide.2 ?_
  go_upto_region 1 with fail
  first | with_reducible refine name_wp ?_ | with_reducible refine name_calls ?_
  intro W hWeq
  have g0 : W.heap[w.heap.size]? = some (.cells #[.int .i64 0] 2) := by rw [hWeq]; repeat (first | (with_reducible exact blk_newAt _ _ (by simp)) | with_reducible refine blk_drew ?_ | with_reducible refine blk_dN ?_ _ | with_reducible refine blk_old ?_ _)
  have hw : Below w.heap.size w W := by rw [hWeq]; repeat (first | with_reducible exact Below.refl _ _ | with_reducible refine Below.drew ?_ | with_reducible refine bl_dN ?_ _ | with_reducible refine Below.alloc ?_ (by simp <;> omega) _)
  clear hWeq
  have hz : w.heap.size + 1 ≤ W.heap.size := by have := blk_lt g0; omega
  have c0_0 : W.cell? ⟨w.heap.size, 0, none⟩ = some (.int .i64 0) := blk_cell g0 0
  have f0 : ∀ j, W.frozen? ⟨w.heap.size, j, none⟩ = false := blk_free g0
  have hB : Below W.heap.size W W := Below.refl _ _
  have G0 := Lib.hid g0; clear g0
  have F0 := Lib.hid f0; clear f0
  have Hw := Lib.hid hw; clear hw
  have HW := Lib.hid (H.out.below Hw.out)
  go_wp2_with (first | (go_at_call 20; refine (flen_calls _ (HW.out.below hB)).mono ?_; rintro e w' ⟨rfl, hb⟩; have hB := bl_next hB hb; clear hb) | (go_at_call 60; refine (fnums_calls _ fb l.length).mono ?_; rintro e w' ⟨rfl, q0, q1, qz, hb⟩; have hB := bl_next hB hb; clear hb))
  obtain ⟨V, rfl⟩ : ∃ V : World, V = w' := ⟨_, rfl⟩
  have hBz := Lib.hid (show w.heap.size + 1 ≤ V.heap.size by have := hB.size; omega)
  refine (wpIn_wide (n := 5)).1 ?_
  have HV := HW.out.below hB
  refine wpIn_rangeFunc_ownF rfl (by decide) (gf := 80) rfl trivial (enters_of Try.func80 (by kernel_rfl) rfl)
    (fnums_stops 4 (by decide) _ _ V.heap.size fb l.length _ l cov (Nat.le_refl _) hl V q1 q0 HV (Nat.le_refl _) (by omega) (by omega) (HV.lt)) belowK_t (belowK_b (Nat.le_refl _)) (Below.refl _ _) (fun _ => rfl)
    (fun pre U => (pre = [] ∧ U.cell? ⟨w.heap.size, 0, none⟩ = some (.int .i64 0) ∧ U.frozen? ⟨w.heap.size, 0, none⟩ = false) ∧ Below w.heap.size w U)
    (fun c pre U => (c = .ret ∧ ∃ x : Fin l.length, pre = [x] ∧ U.cell? ⟨w.heap.size, 0, none⟩ = some (.int .i64 x.1)) ∧ Below w.heap.size w U)
    ?hI ?hIx ?h0 ?a1 ?assign ?body ?done ?stop
  case assign =>
    intro l1 x U K hK
    gi_wp2
    exact hK
  case hI =>
    exact OwnFrom.and (Own.from (fun s A B row hs hg hr => ⟨hs.1, cell_kept hs.2.1 hg hr, (frozen_kept hs.2.1 hg hr).trans hs.2.2⟩) _) (ownFrom_below (Nat.le_refl _) (by have := hB.size; have := Hw.out.size; omega))
  case hIx =>
    intro c
    exact OwnFrom.and (Own.from (fun s A B row hs hg hr => ⟨hs.1, by obtain ⟨x, h1, h2⟩ := hs.2; exact ⟨x, h1, cell_kept h2 hg hr⟩⟩) _) (ownFrom_below (Nat.le_refl _) (by have := hB.size; have := Hw.out.size; omega))
  case h0 => exact ⟨⟨rfl, cb hB c0_0, fzb hB (lt_of_cell c0_0) (F0.out 0)⟩, bl_from Hw.out hB⟩
  case body =>
    rintro l1 pre x U ⟨⟨rfl, hc, hf⟩, hbU⟩ _
    gi_wp2
    exact ⟨KeepsOthers.setCell _ _ _, ⟨rfl, x, rfl, World.cell?_setCell_same' _ _ _ (by rw [hc]; rfl)⟩, hbU.setCell (Nat.le_refl _) _⟩
  case done =>
    rintro D xs U hD hxs ⟨⟨rfl, hc, hf⟩, hbU⟩ hK
    have HS := Lib.hid (safe_all (l := l) (cov := cov) (by rw [← hxs]; rfl))
    have hB := Below.refl U.heap.size U
    go_wp2_with (go_at_call 20; refine (flen_calls _ ((H.out.below hbU).below hB)).mono ?_; rintro e w' ⟨rfl, hb⟩; have hf := fzb hb (lt_of_cell hc) hf; have hc := cb hb hc; have hB := bl_next hB hb; clear hb)
    have hVw : w.heap.size < V.heap.size := by have := lt_of_cell q0; have := hBz.out; omega
    have hK1 := (hB.block D (blk_lt hK)).trans hK
    have hK2 : (w'.setCell ⟨w.heap.size, 0, none⟩ (.int .i64 l.length)).heap[D]? = some (.deferred (some [])) := by rw [Below.heap_setCell _ _ _ _ (by simp; omega)]; exact hK1
    have hc2 : (w'.setCell ⟨w.heap.size, 0, none⟩ (.int .i64 l.length)).cell? ⟨w.heap.size, 0, none⟩ = some (.int .i64 l.length) := World.cell?_setCell_same' _ _ _ (by rw [hc]; rfl)
    have hc3 := cell_kept hc2 (grownBy_putObj' _ D (.deferred none)) (fun r e => by cases e; exact ⟨_, hK2, rfl⟩)
    refine ⟨by simp, .inl ⟨_, _, rfl, run_takeDeferred hK2, ?_⟩⟩
    refine ⟨.int .i64 l.length, by simp [results, Try.results21, go_sem, hc3], by rw [HS.out], ?_⟩
    exact ((hbU.trans (hB.mono hbU.size)).setCell (Nat.le_refl _) _).grown (grownBy_putObj' _ D (.deferred none)) (by have := hbU.size; have := hB.size; simp; omega) (fun k e => by cases e; omega)
  case stop =>
    rintro D c pre U hD ⟨k, hk, hs, hpre⟩ ⟨⟨rfl, x, hx, hc⟩, hbU⟩ hK
    refine wpIn_wide.2 ?_
    go_wp2
    have hVw : w.heap.size < V.heap.size := by have := lt_of_cell q0; have := hBz.out; omega
    have hc3 := cell_kept hc (grownBy_putObj' _ D (.deferred none)) (fun r e => by cases e; exact ⟨_, hK, rfl⟩)
    have HS : safeN l cov = x.1 := by
      rw [hx, openTo_succ, hs] at hpre
      have hx := hpre.symm
      simp only [Bool.false_eq_true, if_false] at hx
      have h1 : openTo l cov k = [] ∧ k = x.1 := by
        cases ho : openTo l cov k with
        | nil => rw [ho] at hx; simpa using hx
        | cons a r => rw [ho] at hx; simp at hx
      rw [← h1.2]; exact safe_first hk hs h1.1
    refine ⟨by simp, .inl ⟨_, _, rfl, run_takeDeferred hK, ?_⟩⟩
    refine ⟨.int .i64 x.1, by simp [results, Try.results21, go_sem, hc3], by rw [HS], ?_⟩
    exact hbU.grown (grownBy_putObj' _ D (.deferred none)) hbU.size (fun k e => by cases e; omega)
end Go.Proofs.Ytdcceaafiammfaa

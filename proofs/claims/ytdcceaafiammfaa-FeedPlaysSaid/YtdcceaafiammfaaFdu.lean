import Derived.Test.YtdcceaafiammfaaFdt
import Derived.Test.YtdcceaafiammfaaFdj
namespace Go.Proofs.Ytdcceaafiammfaa
open Go.RowKit
set_option linter.unusedVariables false
set_option linter.unusedSimpArgs false
def St2 (l : List Item) : Prop := ∀ x ∈ l, x.st ≤ 2
theorem st2_set {l : List Item} (h : St2 l) {i st : Nat} (hs : st ≤ 2) : St2 (setSt l i st) := by
  intro x hx
  obtain ⟨j, hj, rfl⟩ := List.getElem_of_mem hx
  unfold setSt at hj ⊢
  rw [List.getElem_modify]
  split
  · exact hs
  · exact h _ (List.getElem_mem _)
theorem st2_do {l : List Item} {cov : Nat} (h : St2 l) (a : ActX) : St2 (doR l cov a).2.1 := by
  have hw := way l cov a
  generalize doR l cov a = r at hw
  cases hw with
  | grow _ =>
    intro x hx
    rcases List.mem_append.1 hx with hx | hx
    · exact h x hx
    · obtain rfl : x = _ := by simpa using hx
      exact Nat.zero_le _
  | same e _ _ => exact h
  | drop j _ _ hj hN hs h2 => exact st2_set h (by decide)
  | cover c _ _ h1 h2 => exact h
  | tell j _ _ _ hj hN h2 hb => exact st2_set h (by decide)
set_option maxRecDepth 100000 in
set_option maxHeartbeats 4000000 in
theorem want_calls {base rb : Nat} {kv iv : Value} {l : List Item} {cov : Nat} (w : World) (h : RefAt w base rb kv iv l cov) (hl : l.length ≤ 100000) (hbase : base ≤ w.heap.size) (h2l : ∀ x ∈ l, x.st ≤ 2) (a : ActX) (h0 : 0 ≤ a.kind) (h1 : a.kind ≤ 255) :
    Calls Try.prog 16 #[.pointer (some ⟨rb, 0, none⟩), actV a] w fun e w' => e = .returned (.int .i64 (doR l cov a).1) ∧ ∃ kv' iv', RefAt w' base rb kv' iv' (doR l cov a).2.1 (doR l cov a).2.2 ∧ Kept (refX rb kv iv) w w' := by
  obtain ⟨m, hm⟩ : ∃ m, a.kind % 7 = m := ⟨_, rfl⟩
  have hT : a.kind.tmod 7 = m := by rw [Int.tmod_eq_emod_of_nonneg h0]; exact hm
  have H := Lib.hid h
  by_cases q0 : m = 0
  · subst q0
    have f0 : (a.kind % 7 == 0) = true := by rw [hm]; rfl
    have HR := Lib.hid (show doR l cov a = (0, l ++ [⟨a.k, a.s, a.n, 0⟩], cov) by unfold doR isGrow; rw [hT]; simp [])
    clear hm hT h
    unfold actV
    go_enter Try.func16, Try.ntmps16
    go_upto_region 1 with fail
    first | with_reducible refine name_wp ?_ | with_reducible refine name_calls ?_
    intro W hWeq
    have g0 : W.heap[w.heap.size]? = some (.cells #[.int .u8 a.kind, .string a.k, .string a.s, .string a.n, .int .i64 a.N] 37) := by rw [hWeq]; repeat (first | (with_reducible exact blk_newAt _ _ (by simp)) | with_reducible refine blk_drew ?_ | with_reducible refine blk_dN ?_ _ | with_reducible refine blk_old ?_ _)
    have hw : Below w.heap.size w W := by rw [hWeq]; repeat (first | with_reducible exact Below.refl _ _ | with_reducible refine Below.drew ?_ | with_reducible refine bl_dN ?_ _ | with_reducible refine Below.alloc ?_ (by simp <;> omega) _)
    clear hWeq
    have hz : w.heap.size + 1 ≤ W.heap.size := by have := blk_lt g0; omega
    have c0_0 : W.cell? ⟨w.heap.size, 0, none⟩ = some (.int .u8 a.kind) := blk_cell g0 0
    have c0_1 : W.cell? ⟨w.heap.size, 1, none⟩ = some (.string a.k) := blk_cell g0 1
    have c0_2 : W.cell? ⟨w.heap.size, 2, none⟩ = some (.string a.s) := blk_cell g0 2
    have c0_3 : W.cell? ⟨w.heap.size, 3, none⟩ = some (.string a.n) := blk_cell g0 3
    have c0_4 : W.cell? ⟨w.heap.size, 4, none⟩ = some (.int .i64 a.N) := blk_cell g0 4
    have f0 : ∀ j, W.frozen? ⟨w.heap.size, j, none⟩ = false := blk_free g0
    have hB : Below W.heap.size W W := Below.refl _ _
    have G0 := Lib.hid g0; clear g0
    have F0 := Lib.hid f0; clear f0
    have Hw := Lib.hid hw; clear hw
    go_wp2_with (go_at_call 56; refine (rgrow_calls _ (H.out.below Hw.out) (by omega) (Nat.le_trans hbase Hw.out.size) _ _ _).mono ?_; rintro e w' ⟨rfl, kv', iv', hf, hk⟩)
    go_ret
    rw [HR.out]
    exact ⟨rfl, kv', iv', hf, (kept_of_below Hw.out).trans hk (fun n hn => .inl (.inl hn))⟩
  by_cases q1 : m = 1
  · subst q1
    have f0 : (a.kind % 7 == 0) = false := by rw [hm]; rfl
    have f1 : (a.kind % 7 == 1) = true := by rw [hm]; rfl
    have HR := Lib.hid (show doR l cov a = (0, l ++ [⟨a.k, a.s, a.n, 0⟩], cov) by unfold doR isGrow; rw [hT]; simp [])
    clear hm hT h
    unfold actV
    go_enter Try.func16, Try.ntmps16
    go_upto_region 1 with fail
    first | with_reducible refine name_wp ?_ | with_reducible refine name_calls ?_
    intro W hWeq
    have g0 : W.heap[w.heap.size]? = some (.cells #[.int .u8 a.kind, .string a.k, .string a.s, .string a.n, .int .i64 a.N] 37) := by rw [hWeq]; repeat (first | (with_reducible exact blk_newAt _ _ (by simp)) | with_reducible refine blk_drew ?_ | with_reducible refine blk_dN ?_ _ | with_reducible refine blk_old ?_ _)
    have hw : Below w.heap.size w W := by rw [hWeq]; repeat (first | with_reducible exact Below.refl _ _ | with_reducible refine Below.drew ?_ | with_reducible refine bl_dN ?_ _ | with_reducible refine Below.alloc ?_ (by simp <;> omega) _)
    clear hWeq
    have hz : w.heap.size + 1 ≤ W.heap.size := by have := blk_lt g0; omega
    have c0_0 : W.cell? ⟨w.heap.size, 0, none⟩ = some (.int .u8 a.kind) := blk_cell g0 0
    have c0_1 : W.cell? ⟨w.heap.size, 1, none⟩ = some (.string a.k) := blk_cell g0 1
    have c0_2 : W.cell? ⟨w.heap.size, 2, none⟩ = some (.string a.s) := blk_cell g0 2
    have c0_3 : W.cell? ⟨w.heap.size, 3, none⟩ = some (.string a.n) := blk_cell g0 3
    have c0_4 : W.cell? ⟨w.heap.size, 4, none⟩ = some (.int .i64 a.N) := blk_cell g0 4
    have f0 : ∀ j, W.frozen? ⟨w.heap.size, j, none⟩ = false := blk_free g0
    have hB : Below W.heap.size W W := Below.refl _ _
    have G0 := Lib.hid g0; clear g0
    have F0 := Lib.hid f0; clear f0
    have Hw := Lib.hid hw; clear hw
    go_wp2_with (go_at_call 56; refine (rgrow_calls _ (H.out.below Hw.out) (by omega) (Nat.le_trans hbase Hw.out.size) _ _ _).mono ?_; rintro e w' ⟨rfl, kv', iv', hf, hk⟩)
    go_ret
    rw [HR.out]
    exact ⟨rfl, kv', iv', hf, (kept_of_below Hw.out).trans hk (fun n hn => .inl (.inl hn))⟩
  have f0 : (a.kind % 7 == 0) = false := by rw [hm]; simpa using q0
  have f1 : (a.kind % 7 == 1) = false := by rw [hm]; simpa using q1
  by_cases h5 : m = 5
  · subst h5
    have f5 : (a.kind % 7 == 5) = true := by rw [hm]; rfl
    have HR := Lib.hid (show doR l cov a = ((dropR l cov a.N).1, (dropR l cov a.N).2, cov) by unfold doR isGrow; rw [hT]; simp [])
    clear hm hT h
    unfold actV
    go_enter Try.func16, Try.ntmps16
    go_upto_region 1 with fail
    first | with_reducible refine name_wp ?_ | with_reducible refine name_calls ?_
    intro W hWeq
    have g0 : W.heap[w.heap.size]? = some (.cells #[.int .u8 a.kind, .string a.k, .string a.s, .string a.n, .int .i64 a.N] 37) := by rw [hWeq]; repeat (first | (with_reducible exact blk_newAt _ _ (by simp)) | with_reducible refine blk_drew ?_ | with_reducible refine blk_dN ?_ _ | with_reducible refine blk_old ?_ _)
    have hw : Below w.heap.size w W := by rw [hWeq]; repeat (first | with_reducible exact Below.refl _ _ | with_reducible refine Below.drew ?_ | with_reducible refine bl_dN ?_ _ | with_reducible refine Below.alloc ?_ (by simp <;> omega) _)
    clear hWeq
    have hz : w.heap.size + 1 ≤ W.heap.size := by have := blk_lt g0; omega
    have c0_0 : W.cell? ⟨w.heap.size, 0, none⟩ = some (.int .u8 a.kind) := blk_cell g0 0
    have c0_1 : W.cell? ⟨w.heap.size, 1, none⟩ = some (.string a.k) := blk_cell g0 1
    have c0_2 : W.cell? ⟨w.heap.size, 2, none⟩ = some (.string a.s) := blk_cell g0 2
    have c0_3 : W.cell? ⟨w.heap.size, 3, none⟩ = some (.string a.n) := blk_cell g0 3
    have c0_4 : W.cell? ⟨w.heap.size, 4, none⟩ = some (.int .i64 a.N) := blk_cell g0 4
    have f0 : ∀ j, W.frozen? ⟨w.heap.size, j, none⟩ = false := blk_free g0
    have hB : Below W.heap.size W W := Below.refl _ _
    have G0 := Lib.hid g0; clear g0
    have F0 := Lib.hid f0; clear f0
    have Hw := Lib.hid hw; clear hw
    go_wp2_with (go_at_call 57; refine (rdrop_calls _ (H.out.below Hw.out) _ (by omega) h2l).mono ?_; rintro e w' ⟨rfl, hf, hk⟩)
    go_ret
    rw [HR.out]
    exact ⟨rfl, kv, iv, hf, (kept_of_below Hw.out).trans hk (fun n hn => .inl hn)⟩
  have f5 : (a.kind % 7 == 5) = false := by rw [hm]; simpa using h5
  by_cases h6 : m = 6
  · subst h6
    have f6 : (a.kind % 7 == 6) = true := by rw [hm]; rfl
    have HR := Lib.hid (show doR l cov a = ((coverR l cov a.N).1, l, (coverR l cov a.N).2) by unfold doR isGrow; rw [hT]; simp [])
    clear hm hT h
    unfold actV
    go_enter Try.func16, Try.ntmps16
    go_upto_region 1 with fail
    first | with_reducible refine name_wp ?_ | with_reducible refine name_calls ?_
    intro W hWeq
    have g0 : W.heap[w.heap.size]? = some (.cells #[.int .u8 a.kind, .string a.k, .string a.s, .string a.n, .int .i64 a.N] 37) := by rw [hWeq]; repeat (first | (with_reducible exact blk_newAt _ _ (by simp)) | with_reducible refine blk_drew ?_ | with_reducible refine blk_dN ?_ _ | with_reducible refine blk_old ?_ _)
    have hw : Below w.heap.size w W := by rw [hWeq]; repeat (first | with_reducible exact Below.refl _ _ | with_reducible refine Below.drew ?_ | with_reducible refine bl_dN ?_ _ | with_reducible refine Below.alloc ?_ (by simp <;> omega) _)
    clear hWeq
    have hz : w.heap.size + 1 ≤ W.heap.size := by have := blk_lt g0; omega
    have c0_0 : W.cell? ⟨w.heap.size, 0, none⟩ = some (.int .u8 a.kind) := blk_cell g0 0
    have c0_1 : W.cell? ⟨w.heap.size, 1, none⟩ = some (.string a.k) := blk_cell g0 1
    have c0_2 : W.cell? ⟨w.heap.size, 2, none⟩ = some (.string a.s) := blk_cell g0 2
    have c0_3 : W.cell? ⟨w.heap.size, 3, none⟩ = some (.string a.n) := blk_cell g0 3
    have c0_4 : W.cell? ⟨w.heap.size, 4, none⟩ = some (.int .i64 a.N) := blk_cell g0 4
    have f0 : ∀ j, W.frozen? ⟨w.heap.size, j, none⟩ = false := blk_free g0
    have hB : Below W.heap.size W W := Below.refl _ _
    have G0 := Lib.hid g0; clear g0
    have F0 := Lib.hid f0; clear f0
    have Hw := Lib.hid hw; clear hw
    go_wp2_with (go_at_call 58; refine (rcover_calls _ (H.out.below Hw.out) _ (by omega)).mono ?_; rintro e w' ⟨rfl, hf, hk⟩)
    go_ret
    rw [HR.out]
    exact ⟨rfl, kv, iv, hf, (kept_of_below Hw.out).trans hk (fun n hn => .inl hn)⟩
  have f6 : (a.kind % 7 == 6) = false := by rw [hm]; simpa using h6
  have HR := Lib.hid (show doR l cov a = ((tellR l cov a.N).1, (tellR l cov a.N).2, cov) by unfold doR isGrow; rw [hT]; simp [q0, q1, h5, h6])
  clear hm hT h
  unfold actV
  go_enter Try.func16, Try.ntmps16
  go_upto_region 1 with fail
  first | with_reducible refine name_wp ?_ | with_reducible refine name_calls ?_
  intro W hWeq
  have g0 : W.heap[w.heap.size]? = some (.cells #[.int .u8 a.kind, .string a.k, .string a.s, .string a.n, .int .i64 a.N] 37) := by rw [hWeq]; repeat (first | (with_reducible exact blk_newAt _ _ (by simp)) | with_reducible refine blk_drew ?_ | with_reducible refine blk_dN ?_ _ | with_reducible refine blk_old ?_ _)
  have hw : Below w.heap.size w W := by rw [hWeq]; repeat (first | with_reducible exact Below.refl _ _ | with_reducible refine Below.drew ?_ | with_reducible refine bl_dN ?_ _ | with_reducible refine Below.alloc ?_ (by simp <;> omega) _)
  clear hWeq
  have hz : w.heap.size + 1 ≤ W.heap.size := by have := blk_lt g0; omega
  have c0_0 : W.cell? ⟨w.heap.size, 0, none⟩ = some (.int .u8 a.kind) := blk_cell g0 0
  have c0_1 : W.cell? ⟨w.heap.size, 1, none⟩ = some (.string a.k) := blk_cell g0 1
  have c0_2 : W.cell? ⟨w.heap.size, 2, none⟩ = some (.string a.s) := blk_cell g0 2
  have c0_3 : W.cell? ⟨w.heap.size, 3, none⟩ = some (.string a.n) := blk_cell g0 3
  have c0_4 : W.cell? ⟨w.heap.size, 4, none⟩ = some (.int .i64 a.N) := blk_cell g0 4
  have f0 : ∀ j, W.frozen? ⟨w.heap.size, j, none⟩ = false := blk_free g0
  have hB : Below W.heap.size W W := Below.refl _ _
  have G0 := Lib.hid g0; clear g0
  have F0 := Lib.hid f0; clear f0
  have Hw := Lib.hid hw; clear hw
  go_wp2_with (go_at_call 59; refine (rtell_calls _ (H.out.below Hw.out) _ (by omega)).mono ?_; rintro e w' ⟨rfl, hf, hk⟩)
  go_ret
  rw [HR.out]
  exact ⟨rfl, kv, iv, hf, (kept_of_below Hw.out).trans hk (fun n hn => .inl hn)⟩
end Go.Proofs.Ytdcceaafiammfaa

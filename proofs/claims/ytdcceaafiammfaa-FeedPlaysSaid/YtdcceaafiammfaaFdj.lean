import Derived.Test.YtdcceaafiammfaaFdi
import Derived.Test.YtdcceaafiammfaaFdc
import Derived.Test.YtdcceaafiammfaaKinds
namespace Go.Proofs.Ytdcceaafiammfaa
open Go.RowKit
set_option linter.unusedVariables false
set_option linter.unusedSimpArgs false
/-! ### The law's own functions -/
def kAct : Kd ActX := kIso (kPair (kInt .u8) (kPair kKey (kInt .i64))) fun a => (a.kind, ⟨a.k, a.s, a.n⟩, a.N)
theorem opAct : Opens Try.prog 37 kAct := by
  refine opens_iso (fun x => ⟨x.1, x.2.1.k, x.2.1.s, x.2.1.n, x.2.2⟩) (fun _ => rfl) ?_
  refine opens_struct Try.underlying37 (by kernel_rfl) ?_
  exact (by refine opensF_cons ?_ ?_ ?_; rfl; exact opU8; refine opensF_cons ?_ ?_ ?_; rfl; exact opKey; refine opensF_one ?_ ?_; rfl; exact opInt)
theorem opActs : Opens Try.prog 22 (kSlice kAct) := opens_slice Try.underlying22 (by kernel_rfl) (by decide) opAct
theorem kAct_cs {w : World} {ok : Nat → Prop} {a : ActX} {cs : List Value} (h : kAct.K w ok a cs) : cs = [.int .u8 a.kind, .string a.k, .string a.s, .string a.n, .int .i64 a.N] ∧ 0 ≤ a.kind ∧ a.kind ≤ 255 ∧ -9223372036854775808 ≤ a.N ∧ a.N ≤ 9223372036854775807 := by
  obtain ⟨c0, c1, rfl, h0, c2, c3, rfl, h2, h3⟩ := h
  rw [kKey_cs h2, show c0 = _ from h0.1, show c3 = _ from h3.1]
  have q0 := h0.2; have q3 := h3.2
  simp [Lit.wf, IntKind.min, IntKind.max, IntKind.signed, IntKind.bits] at q0 q3
  exact ⟨rfl, q0.1, q0.2, q3.1, q3.2⟩
/-- The acts as they lie. -/
structure Acts (w : World) (A : Option Addr) (xs : List ActX) : Prop where
  at' : ∀ i (h : i < xs.length), ∃ b off, A = some ⟨b, off, none⟩ ∧ b < w.heap.size ∧ w.cell? ⟨b, off + i * 5, none⟩ = some (.int .u8 (xs[i]'h).kind) ∧ w.cell? ⟨b, off + i * 5 + 1, none⟩ = some (.string (xs[i]'h).k) ∧ w.cell? ⟨b, off + i * 5 + 2, none⟩ = some (.string (xs[i]'h).s) ∧ w.cell? ⟨b, off + i * 5 + 3, none⟩ = some (.string (xs[i]'h).n) ∧ w.cell? ⟨b, off + i * 5 + 4, none⟩ = some (.int .i64 (xs[i]'h).N)
    ∧ 0 ≤ (xs[i]'h).kind ∧ (xs[i]'h).kind ≤ 255 ∧ -9223372036854775808 ≤ (xs[i]'h).N ∧ (xs[i]'h).N ≤ 9223372036854775807
theorem acts_of {w : World} {ok : Nat → Prop} {A : Option Addr} {xs : List ActX} (h : Row kAct w ok A xs) : Acts w A xs := ⟨fun i hi => by
  rcases h with rfl | ⟨b, off, hA, _, hb, hr⟩
  · cases hi
  · obtain ⟨cs, hc, hk⟩ := hr i hi
    obtain ⟨rfl, q⟩ := kAct_cs hk
    have hz : kAct.sz = 5 := rfl
    rw [hz] at hc
    exact ⟨b, off, hA, hb, hc 0 _ rfl, hc 1 _ rfl, hc 2 _ rfl, hc 3 _ rfl, hc 4 _ rfl, q⟩⟩
theorem Acts.below {w w1 : World} {A : Option Addr} {xs : List ActX} (h : Acts w A xs) (hb : Below w.heap.size w w1) : Acts w1 A xs := ⟨fun i hi => by
  obtain ⟨b, off, hA, hl, h0, h1, h2, h3, h4, q⟩ := h.at' i hi
  exact ⟨b, off, hA, Nat.lt_of_lt_of_le hl hb.size, cb hb h0, cb hb h1, cb hb h2, cb hb h3, cb hb h4, q⟩⟩
def actV (a : ActX) : Value := .agg #[.int .u8 a.kind, .string a.k, .string a.s, .string a.n, .int .i64 a.N]
set_option maxRecDepth 100000 in
set_option maxHeartbeats 4000000 in
theorem do_calls {fp : Nat} {v : Value} {l : List Item} {cov : Nat} (w : World) (h : FeedAt w fp v l cov) (hl : l.length ≤ 100000) (a : ActX) (h0 : 0 ≤ a.kind) (h1 : a.kind ≤ 255) (base : Nat) (hbase : ∀ b, feedX fp v b → base ≤ b) :
    Calls Try.prog 15 #[.pointer (some ⟨fp, 0, none⟩), actV a] w fun e w' => e = .returned (.int .i64 (doR l cov a).1) ∧ ∃ v', FeedAt w' fp v' (doR l cov a).2.1 (doR l cov a).2.2 ∧ Kept (feedX fp v) w w' ∧ ∀ b, feedX fp v' b → base ≤ b := by
  obtain ⟨m, hm⟩ : ∃ m, a.kind % 7 = m := ⟨_, rfl⟩
  have hT : a.kind.tmod 7 = m := by rw [Int.tmod_eq_emod_of_nonneg h0]; exact hm
  have H := Lib.hid h
  by_cases q0 : m = 0
  · subst q0
    have f0 : (a.kind % 7 == 0) = true := by rw [hm]; rfl
    have HR := Lib.hid (show doR l cov a = (0, l ++ [⟨a.k, a.s, a.n, 0⟩], cov) by unfold doR isGrow; rw [hT]; simp [])
    clear hm hT h
    unfold actV
    go_enter Try.func15, Try.ntmps15
    go_upto_region 1 with fail
    first | with_reducible refine name_wp ?_ | with_reducible refine name_calls ?_
    intro W hWeq
    have g0 : W.heap[w.heap.size]? = some (.cells #[.int .u8 a.kind, .string a.k, .string a.s, .string a.n, .int .i64 a.N] 37) := by rw [hWeq]; repeat (first | (with_reducible exact blk_newAt _ _ (by simp)) | with_reducible refine blk_drew ?_ | with_reducible refine blk_dN ?_ _ | with_reducible refine blk_old ?_ _)
    have hw : Below w.heap.size w W := by rw [hWeq]; repeat (first | with_reducible exact Below.refl _ _ | with_reducible refine Below.drew ?_ | with_reducible refine bl_dN ?_ _ | with_reducible refine Below.alloc ?_ (by simp <;> omega) _)
    clear hWeq
    have hz : w.heap.size + 1 ≤ W.heap.size := by have := blk_lt g0; omega
    have c0_0 : W.cell? ⟨w.heap.size, 0, none⟩ = some (.int .u8 a.kind) := blk_cell g0 0
    have c0_1 : W.cell? ⟨w.heap.size, 1, none⟩ = some (.string a.k) := blk_cell g0 1
    have c0_2 : W.cell? ⟨w.heap.size, 2, none⟩ = some (.string a.s) := blk_cell g0 2
    have c0_3 : W.cell? ⟨w.heap.size, 3, none⟩ = some (.string a.n) := blk_cell g0 3
    have c0_4 : W.cell? ⟨w.heap.size, 4, none⟩ = some (.int .i64 a.N) := blk_cell g0 4
    have f0 : ∀ j, W.frozen? ⟨w.heap.size, j, none⟩ = false := blk_free g0
    have hB : Below W.heap.size W W := Below.refl _ _
    have G0 := Lib.hid g0; clear g0
    have F0 := Lib.hid f0; clear f0
    have Hw := Lib.hid hw; clear hw
    go_wp2_with (go_at_call 53; refine (fgrow_calls _ (H.out.below Hw.out) (by omega) _ _ _ base hbase).mono ?_; rintro e w' ⟨rfl, v', hf, hk, hb⟩)
    go_ret
    rw [HR.out]
    exact ⟨rfl, v', hf, (kept_of_below Hw.out).trans hk (fun n hn => .inl hn), hb⟩
  by_cases q1 : m = 1
  · subst q1
    have f0 : (a.kind % 7 == 0) = false := by rw [hm]; rfl
    have f1 : (a.kind % 7 == 1) = true := by rw [hm]; rfl
    have HR := Lib.hid (show doR l cov a = (0, l ++ [⟨a.k, a.s, a.n, 0⟩], cov) by unfold doR isGrow; rw [hT]; simp [])
    clear hm hT h
    unfold actV
    go_enter Try.func15, Try.ntmps15
    go_upto_region 1 with fail
    first | with_reducible refine name_wp ?_ | with_reducible refine name_calls ?_
    intro W hWeq
    have g0 : W.heap[w.heap.size]? = some (.cells #[.int .u8 a.kind, .string a.k, .string a.s, .string a.n, .int .i64 a.N] 37) := by rw [hWeq]; repeat (first | (with_reducible exact blk_newAt _ _ (by simp)) | with_reducible refine blk_drew ?_ | with_reducible refine blk_dN ?_ _ | with_reducible refine blk_old ?_ _)
    have hw : Below w.heap.size w W := by rw [hWeq]; repeat (first | with_reducible exact Below.refl _ _ | with_reducible refine Below.drew ?_ | with_reducible refine bl_dN ?_ _ | with_reducible refine Below.alloc ?_ (by simp <;> omega) _)
    clear hWeq
    have hz : w.heap.size + 1 ≤ W.heap.size := by have := blk_lt g0; omega
    have c0_0 : W.cell? ⟨w.heap.size, 0, none⟩ = some (.int .u8 a.kind) := blk_cell g0 0
    have c0_1 : W.cell? ⟨w.heap.size, 1, none⟩ = some (.string a.k) := blk_cell g0 1
    have c0_2 : W.cell? ⟨w.heap.size, 2, none⟩ = some (.string a.s) := blk_cell g0 2
    have c0_3 : W.cell? ⟨w.heap.size, 3, none⟩ = some (.string a.n) := blk_cell g0 3
    have c0_4 : W.cell? ⟨w.heap.size, 4, none⟩ = some (.int .i64 a.N) := blk_cell g0 4
    have f0 : ∀ j, W.frozen? ⟨w.heap.size, j, none⟩ = false := blk_free g0
    have hB : Below W.heap.size W W := Below.refl _ _
    have G0 := Lib.hid g0; clear g0
    have F0 := Lib.hid f0; clear f0
    have Hw := Lib.hid hw; clear hw
    go_wp2_with (go_at_call 53; refine (fgrow_calls _ (H.out.below Hw.out) (by omega) _ _ _ base hbase).mono ?_; rintro e w' ⟨rfl, v', hf, hk, hb⟩)
    go_ret
    rw [HR.out]
    exact ⟨rfl, v', hf, (kept_of_below Hw.out).trans hk (fun n hn => .inl hn), hb⟩
  have f0 : (a.kind % 7 == 0) = false := by rw [hm]; simpa using q0
  have f1 : (a.kind % 7 == 1) = false := by rw [hm]; simpa using q1
  by_cases h5 : m = 5
  · subst h5
    have f5 : (a.kind % 7 == 5) = true := by rw [hm]; rfl
    have HR := Lib.hid (show doR l cov a = ((dropR l cov a.N).1, (dropR l cov a.N).2, cov) by unfold doR isGrow; rw [hT]; simp [])
    clear hm hT h
    unfold actV
    go_enter Try.func15, Try.ntmps15
    go_upto_region 1 with fail
    first | with_reducible refine name_wp ?_ | with_reducible refine name_calls ?_
    intro W hWeq
    have g0 : W.heap[w.heap.size]? = some (.cells #[.int .u8 a.kind, .string a.k, .string a.s, .string a.n, .int .i64 a.N] 37) := by rw [hWeq]; repeat (first | (with_reducible exact blk_newAt _ _ (by simp)) | with_reducible refine blk_drew ?_ | with_reducible refine blk_dN ?_ _ | with_reducible refine blk_old ?_ _)
    have hw : Below w.heap.size w W := by rw [hWeq]; repeat (first | with_reducible exact Below.refl _ _ | with_reducible refine Below.drew ?_ | with_reducible refine bl_dN ?_ _ | with_reducible refine Below.alloc ?_ (by simp <;> omega) _)
    clear hWeq
    have hz : w.heap.size + 1 ≤ W.heap.size := by have := blk_lt g0; omega
    have c0_0 : W.cell? ⟨w.heap.size, 0, none⟩ = some (.int .u8 a.kind) := blk_cell g0 0
    have c0_1 : W.cell? ⟨w.heap.size, 1, none⟩ = some (.string a.k) := blk_cell g0 1
    have c0_2 : W.cell? ⟨w.heap.size, 2, none⟩ = some (.string a.s) := blk_cell g0 2
    have c0_3 : W.cell? ⟨w.heap.size, 3, none⟩ = some (.string a.n) := blk_cell g0 3
    have c0_4 : W.cell? ⟨w.heap.size, 4, none⟩ = some (.int .i64 a.N) := blk_cell g0 4
    have f0 : ∀ j, W.frozen? ⟨w.heap.size, j, none⟩ = false := blk_free g0
    have hB : Below W.heap.size W W := Below.refl _ _
    have G0 := Lib.hid g0; clear g0
    have F0 := Lib.hid f0; clear f0
    have Hw := Lib.hid hw; clear hw
    go_wp2_with (go_at_call 55; refine (fdrop_calls _ (H.out.below Hw.out) _ (by omega)).mono ?_; rintro e w' ⟨rfl, hf, hk⟩)
    go_ret
    rw [HR.out]
    exact ⟨rfl, v, hf, (kept_of_below Hw.out).trans hk (fun n hn => .inl hn), hbase⟩
  have f5 : (a.kind % 7 == 5) = false := by rw [hm]; simpa using h5
  by_cases h6 : m = 6
  · subst h6
    have f6 : (a.kind % 7 == 6) = true := by rw [hm]; rfl
    have HR := Lib.hid (show doR l cov a = ((coverR l cov a.N).1, l, (coverR l cov a.N).2) by unfold doR isGrow; rw [hT]; simp [])
    clear hm hT h
    unfold actV
    go_enter Try.func15, Try.ntmps15
    go_upto_region 1 with fail
    first | with_reducible refine name_wp ?_ | with_reducible refine name_calls ?_
    intro W hWeq
    have g0 : W.heap[w.heap.size]? = some (.cells #[.int .u8 a.kind, .string a.k, .string a.s, .string a.n, .int .i64 a.N] 37) := by rw [hWeq]; repeat (first | (with_reducible exact blk_newAt _ _ (by simp)) | with_reducible refine blk_drew ?_ | with_reducible refine blk_dN ?_ _ | with_reducible refine blk_old ?_ _)
    have hw : Below w.heap.size w W := by rw [hWeq]; repeat (first | with_reducible exact Below.refl _ _ | with_reducible refine Below.drew ?_ | with_reducible refine bl_dN ?_ _ | with_reducible refine Below.alloc ?_ (by simp <;> omega) _)
    clear hWeq
    have hz : w.heap.size + 1 ≤ W.heap.size := by have := blk_lt g0; omega
    have c0_0 : W.cell? ⟨w.heap.size, 0, none⟩ = some (.int .u8 a.kind) := blk_cell g0 0
    have c0_1 : W.cell? ⟨w.heap.size, 1, none⟩ = some (.string a.k) := blk_cell g0 1
    have c0_2 : W.cell? ⟨w.heap.size, 2, none⟩ = some (.string a.s) := blk_cell g0 2
    have c0_3 : W.cell? ⟨w.heap.size, 3, none⟩ = some (.string a.n) := blk_cell g0 3
    have c0_4 : W.cell? ⟨w.heap.size, 4, none⟩ = some (.int .i64 a.N) := blk_cell g0 4
    have f0 : ∀ j, W.frozen? ⟨w.heap.size, j, none⟩ = false := blk_free g0
    have hB : Below W.heap.size W W := Below.refl _ _
    have G0 := Lib.hid g0; clear g0
    have F0 := Lib.hid f0; clear f0
    have Hw := Lib.hid hw; clear hw
    go_wp2_with (go_at_call 25; refine (fcover_calls _ (H.out.below Hw.out) _).mono ?_; rintro e w' ⟨rfl, hf, hk⟩)
    go_ret
    rw [HR.out]
    exact ⟨rfl, v, hf, (kept_of_below Hw.out).trans hk (fun n hn => .inl hn), hbase⟩
  have f6 : (a.kind % 7 == 6) = false := by rw [hm]; simpa using h6
  have HR := Lib.hid (show doR l cov a = ((tellR l cov a.N).1, (tellR l cov a.N).2, cov) by unfold doR isGrow; rw [hT]; simp [q0, q1, h5, h6])
  clear hm hT h
  unfold actV
  go_enter Try.func15, Try.ntmps15
  go_upto_region 1 with fail
  first | with_reducible refine name_wp ?_ | with_reducible refine name_calls ?_
  intro W hWeq
  have g0 : W.heap[w.heap.size]? = some (.cells #[.int .u8 a.kind, .string a.k, .string a.s, .string a.n, .int .i64 a.N] 37) := by rw [hWeq]; repeat (first | (with_reducible exact blk_newAt _ _ (by simp)) | with_reducible refine blk_drew ?_ | with_reducible refine blk_dN ?_ _ | with_reducible refine blk_old ?_ _)
  have hw : Below w.heap.size w W := by rw [hWeq]; repeat (first | with_reducible exact Below.refl _ _ | with_reducible refine Below.drew ?_ | with_reducible refine bl_dN ?_ _ | with_reducible refine Below.alloc ?_ (by simp <;> omega) _)
  clear hWeq
  have hz : w.heap.size + 1 ≤ W.heap.size := by have := blk_lt g0; omega
  have c0_0 : W.cell? ⟨w.heap.size, 0, none⟩ = some (.int .u8 a.kind) := blk_cell g0 0
  have c0_1 : W.cell? ⟨w.heap.size, 1, none⟩ = some (.string a.k) := blk_cell g0 1
  have c0_2 : W.cell? ⟨w.heap.size, 2, none⟩ = some (.string a.s) := blk_cell g0 2
  have c0_3 : W.cell? ⟨w.heap.size, 3, none⟩ = some (.string a.n) := blk_cell g0 3
  have c0_4 : W.cell? ⟨w.heap.size, 4, none⟩ = some (.int .i64 a.N) := blk_cell g0 4
  have f0 : ∀ j, W.frozen? ⟨w.heap.size, j, none⟩ = false := blk_free g0
  have hB : Below W.heap.size W W := Below.refl _ _
  have G0 := Lib.hid g0; clear g0
  have F0 := Lib.hid f0; clear f0
  have Hw := Lib.hid hw; clear hw
  go_wp2_with (go_at_call 54; refine (ftell_calls _ (H.out.below Hw.out) _ (by omega)).mono ?_; rintro e w' ⟨rfl, hf, hk⟩)
  go_ret
  rw [HR.out]
  exact ⟨rfl, v, hf, (kept_of_below Hw.out).trans hk (fun n hn => .inl hn), hbase⟩
end Go.Proofs.Ytdcceaafiammfaa

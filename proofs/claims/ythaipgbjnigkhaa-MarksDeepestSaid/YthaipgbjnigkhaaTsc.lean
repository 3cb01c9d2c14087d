import Derived.Test.YthaipgbjnigkhaaTsb
namespace Go.Proofs.Ythaipgbjnigkhaa
open Go.RowKit Go.Shelf Go.Maps
set_option linter.unusedVariables false
set_option linter.unusedSimpArgs false
/-! ### The law's own functions -/
def kActT : Kd ActT := kIso (kPair (kInt .u8) (kPair kStr kStr)) fun a => (a.kind, a.n, a.o)
theorem opActT : Opens Try.prog 32 kActT := by
  refine opens_iso (fun x => ⟨x.1, x.2.1, x.2.2⟩) (fun _ => rfl) ?_
  refine opens_struct Try.underlying32 (by kernel_rfl) ?_
  exact (by refine opensF_cons ?_ ?_ ?_; rfl; exact opU8; refine opensF_cons ?_ ?_ ?_; rfl; exact opStr; refine opensF_one ?_ ?_; rfl; exact opStr)
theorem opActsT : Opens Try.prog 22 (kSlice kActT) := opens_slice Try.underlying22 (by kernel_rfl) (by decide) opActT
theorem kActT_cs {w : World} {ok : Nat → Prop} {a : ActT} {cs : List Value} (h : kActT.K w ok a cs) : cs = [.int .u8 a.kind, .string a.n, .string a.o] ∧ 0 ≤ a.kind ∧ a.kind ≤ 255 := by
  obtain ⟨c0, c1, rfl, h0, c2, c3, rfl, h2, h3⟩ := h
  rw [show c0 = _ from h0.1, show c2 = _ from h2, show c3 = _ from h3]
  have q0 := h0.2
  simp [Lit.wf, IntKind.min, IntKind.max, IntKind.signed, IntKind.bits] at q0
  exact ⟨rfl, q0.1, q0.2⟩
/-- The acts as they lie. -/
structure ActsT (w : World) (A : Option Addr) (xs : List ActT) : Prop where
  at' : ∀ i (h : i < xs.length), ∃ b off, A = some ⟨b, off, none⟩ ∧ b < w.heap.size ∧ w.cell? ⟨b, off + i * 3, none⟩ = some (.int .u8 (xs[i]'h).kind) ∧ w.cell? ⟨b, off + i * 3 + 1, none⟩ = some (.string (xs[i]'h).n) ∧ w.cell? ⟨b, off + i * 3 + 2, none⟩ = some (.string (xs[i]'h).o)
    ∧ 0 ≤ (xs[i]'h).kind ∧ (xs[i]'h).kind ≤ 255
theorem actsT_of {w : World} {ok : Nat → Prop} {A : Option Addr} {xs : List ActT} (h : Row kActT w ok A xs) : ActsT w A xs := ⟨fun i hi => by
  rcases h with rfl | ⟨b, off, hA, _, hb, hr⟩
  · cases hi
  · obtain ⟨cs, hc, hk⟩ := hr i hi
    obtain ⟨rfl, q⟩ := kActT_cs hk
    have hz : kActT.sz = 3 := rfl
    rw [hz] at hc
    exact ⟨b, off, hA, hb, hc 0 _ rfl, hc 1 _ rfl, hc 2 _ rfl, q⟩⟩
theorem ActsT.below {w w1 : World} {A : Option Addr} {xs : List ActT} (h : ActsT w A xs) (hb : Below w.heap.size w w1) : ActsT w1 A xs := ⟨fun i hi => by
  obtain ⟨b, off, hA, hl, h0, h1, h2, q⟩ := h.at' i hi
  exact ⟨b, off, hA, Nat.lt_of_lt_of_le hl hb.size, cb hb h0, cb hb h1, cb hb h2, q⟩⟩
def actVT (a : ActT) : Value := .agg #[.int .u8 a.kind, .string a.n, .string a.o]
def fitT (a : ActT) : Bool := decide (a.n.size ≤ 100) && decide (a.o.size ≤ 100)
def fitsT (l : List ActT) : Bool := decide (l.length ≤ 60) && l.all fitT
theorem fitsT_spec {l : List ActT} (h : fitsT l = true) : l.length ≤ 60 ∧ ∀ i (hi : i < l.length), (l[i]'hi).n.size ≤ 100 ∧ (l[i]'hi).o.size ≤ 100 := by
  unfold fitsT at h
  simp only [Bool.and_eq_true, decide_eq_true_eq, List.all_eq_true] at h
  refine ⟨h.1, fun i hi => ?_⟩
  have := h.2 _ (List.getElem_mem hi)
  unfold fitT at this
  simpa using this
set_option maxRecDepth 100000 in
set_option maxHeartbeats 4000000 in
theorem fits11_calls (w : World) (A : Option Addr) (cap : Nat) (l : List ActT) (h : ActsT w A l) :
    Calls Try.prog 10 #[.slice A l.length cap] w fun e w' => e = .returned (.bool (fitsT l)) ∧ Below w.heap.size w w' := by
  have hB := Below.refl w.heap.size w
  by_cases hl : 60 < l.length
  · have hlI : (60 : Int) < l.length := by omega
    go_enter Try.func10, Try.ntmps10
    go_wp2
    go_ret
    refine ⟨ret_bool ?_, hB⟩
    unfold fitsT
    rw [show decide (l.length ≤ 60) = false by simp; omega]; rfl
  · have hlI : (l.length : Int) ≤ 60 := by omega
    go_enter Try.func10, Try.ntmps10
    go_wp2
    go_loopw [3] (fun i wr => ∃ k : Nat, i = .int .i64 k ∧ k ≤ l.length ∧ (∀ j (hj : j < l.length), j < k → fitT (l[j]'hj) = true) ∧ Below w.heap.size w wr) (fun i _ => l.length - (intOf i).toNat)
    case atStart => exact ⟨0, rfl, Nat.zero_le _, fun j hj h => absurd h (Nat.not_lt_zero _), hB⟩
    case round =>
      obtain ⟨k, rfl, hk, hall, hB⟩ := hrel
      have HALL := Lib.hid hall
      clear hall
      by_cases hkl : k < l.length
      · have hkI : (k : Int) < l.length := by omega
        obtain ⟨b, off, rfl, hb, c0, c1, c2, q⟩ := (h.below hB).at' k hkl
        generalize hz : l[k]'hkl = z at c0 c1 c2
        have HZ := Lib.hid hz
        clear hz q
        have fin : fitT z = false → fitsT l = false := fun hf => by
          have hn : l.all fitT = false := by
            rw [List.all_eq_false]
            exact ⟨z, by rw [← HZ.out]; exact List.getElem_mem hkl, by simp [hf]⟩
          unfold fitsT; rw [hn, Bool.and_false]
        have FIN := Lib.hid fin
        clear fin
        by_cases h1 : 100 < z.n.size
        · have h1I : (100 : Int) < z.n.size := by omega
          go_wp2
          go_ret
          exact ⟨ret_bool (FIN.out (by unfold fitT; simp; omega)).symm, hB⟩
        · have h1I : (z.n.size : Int) ≤ 100 := by omega
          by_cases h2 : 100 < z.o.size
          · have h2I : (100 : Int) < z.o.size := by omega
            go_wp2
            go_ret
            exact ⟨ret_bool (FIN.out (by unfold fitT; simp; omega)).symm, hB⟩
          · have h2I : (z.o.size : Int) ≤ 100 := by omega
            go_wp2
            go_roundw
            case rel =>
              refine ⟨k + 1, by simp, by omega, fun j hj hjk => ?_, hB⟩
              rcases Nat.lt_or_ge j k with q | q
              · exact HALL.out j hj q
              · obtain rfl : j = k := by omega
                rw [HZ.out]; unfold fitT; simp; omega
            case measure => simp [intOf]; omega
      · obtain rfl : k = l.length := by omega
        go_wp2
        go_ret
        refine ⟨ret_bool ?_, hB⟩
        unfold fitsT
        rw [show decide (l.length ≤ 60) = true by simp; omega, show l.all fitT = true by
          rw [List.all_eq_true]
          intro x hx
          obtain ⟨j, hj, rfl⟩ := List.getElem_of_mem hx
          exact HALL.out j hj hj]
        rfl
section
variable {w cur : World} {tp mb : Nat} {N : Nodes}
set_option maxRecDepth 100000 in
set_option maxHeartbeats 4000000 in
theorem doT_ts (h : TS w cur tp mb N) (G : Good11 N) (a : ActT) (h0 : 0 ≤ a.kind) (h1 : a.kind ≤ 255) (hs : a.n.size ≤ 1000) (hp : a.o.size ≤ 1000) (r : Int) (M : Nodes) (hr : doT N a = (r, M)) :
    Calls Try.prog 14 #[.pointer (some ⟨tp, 0, none⟩), actVT a] cur fun e w' => e = .returned (.int .i64 r) ∧ TS w w' tp mb M ∧ Kept (treeX tp mb) cur w' := by
  obtain ⟨m, hm⟩ : ∃ m, a.kind % 4 = m := ⟨_, rfl⟩
  have hT : a.kind.tmod 4 = m := by rw [Int.tmod_eq_emod_of_nonneg h0]; exact hm
  have H := Lib.hid h
  by_cases q2 : m = 2
  · subst q2
    have f0 : (a.kind % 4 == 2) = true := by rw [hm]; rfl
    have HR := Lib.hid (show moveR N a.n a.o = (r, M) by rw [← hr]; unfold doT; rw [hT, if_pos rfl])
    clear hm hT h hr
    unfold actVT
    go_enter Try.func14, Try.ntmps14
    go_upto_region 1 with fail
    first | with_reducible refine name_wp ?_ | with_reducible refine name_calls ?_
    intro W hWeq
    have g0 : W.heap[cur.heap.size]? = some (.cells #[.int .u8 a.kind, .string a.n, .string a.o] 32) := by rw [hWeq]; repeat (first | (with_reducible exact blk_newAt _ _ (by simp)) | with_reducible refine blk_drew ?_ | with_reducible refine blk_dN ?_ _ | with_reducible refine blk_old ?_ _)
    have hw : Below cur.heap.size cur W := by rw [hWeq]; repeat (first | with_reducible exact Below.refl _ _ | with_reducible refine Below.drew ?_ | with_reducible refine bl_dN ?_ _ | with_reducible refine Below.alloc ?_ (by simp <;> omega) _)
    clear hWeq
    have hz : cur.heap.size + 1 ≤ W.heap.size := by have := blk_lt g0; omega
    have c0_0 : W.cell? ⟨cur.heap.size, 0, none⟩ = some (.int .u8 a.kind) := blk_cell g0 0
    have c0_1 : W.cell? ⟨cur.heap.size, 1, none⟩ = some (.string a.n) := blk_cell g0 1
    have c0_2 : W.cell? ⟨cur.heap.size, 2, none⟩ = some (.string a.o) := blk_cell g0 2
    have f0 : ∀ j, W.frozen? ⟨cur.heap.size, j, none⟩ = false := blk_free g0
    have hB : Below W.heap.size W W := Below.refl _ _
    have G0 := Lib.hid g0; clear g0
    have F0 := Lib.hid f0; clear f0
    have Hw := Lib.hid hw; clear hw
    have SS := Lib.hid (H.out.read Hw.out)
    clear H
    go_wp2_with fail
    refine (move_ts SS.out G _ _ hs hp r M HR.out).mono ?_
    rintro e w' ⟨rfl, S, hk⟩
    go_wp2_with fail
    go_ret
    exact ⟨rfl, S, (kept_of_below Hw.out).trans hk (fun n hn => .inl hn)⟩
  have f0 : (a.kind % 4 == 2) = false := by rw [hm]; simpa using q2
  by_cases q3 : m = 3
  · subst q3
    have f1 : (a.kind % 4 == 3) = true := by rw [hm]; rfl
    have HR := Lib.hid (show removeR N a.n = (r, M) by rw [← hr]; unfold doT; rw [hT, if_neg (by decide), if_pos rfl])
    clear hm hT h hr
    unfold actVT
    go_enter Try.func14, Try.ntmps14
    go_upto_region 1 with fail
    first | with_reducible refine name_wp ?_ | with_reducible refine name_calls ?_
    intro W hWeq
    have g0 : W.heap[cur.heap.size]? = some (.cells #[.int .u8 a.kind, .string a.n, .string a.o] 32) := by rw [hWeq]; repeat (first | (with_reducible exact blk_newAt _ _ (by simp)) | with_reducible refine blk_drew ?_ | with_reducible refine blk_dN ?_ _ | with_reducible refine blk_old ?_ _)
    have hw : Below cur.heap.size cur W := by rw [hWeq]; repeat (first | with_reducible exact Below.refl _ _ | with_reducible refine Below.drew ?_ | with_reducible refine bl_dN ?_ _ | with_reducible refine Below.alloc ?_ (by simp <;> omega) _)
    clear hWeq
    have hz : cur.heap.size + 1 ≤ W.heap.size := by have := blk_lt g0; omega
    have c0_0 : W.cell? ⟨cur.heap.size, 0, none⟩ = some (.int .u8 a.kind) := blk_cell g0 0
    have c0_1 : W.cell? ⟨cur.heap.size, 1, none⟩ = some (.string a.n) := blk_cell g0 1
    have c0_2 : W.cell? ⟨cur.heap.size, 2, none⟩ = some (.string a.o) := blk_cell g0 2
    have f0 : ∀ j, W.frozen? ⟨cur.heap.size, j, none⟩ = false := blk_free g0
    have hB : Below W.heap.size W W := Below.refl _ _
    have G0 := Lib.hid g0; clear g0
    have F0 := Lib.hid f0; clear f0
    have Hw := Lib.hid hw; clear hw
    have SS := Lib.hid (H.out.read Hw.out)
    clear H
    go_wp2_with fail
    refine (remove_ts SS.out G _ hs r M HR.out).mono ?_
    rintro e w' ⟨rfl, S, hk⟩
    go_wp2_with fail
    go_ret
    exact ⟨rfl, S, (kept_of_below Hw.out).trans hk (fun n hn => .inl hn)⟩
  have f1 : (a.kind % 4 == 3) = false := by rw [hm]; simpa using q3
  have HR := Lib.hid (show createR N a.n a.o = (r, M) by rw [← hr]; unfold doT; rw [hT, if_neg q2, if_neg q3])
  clear hm hT h hr
  unfold actVT
  go_enter Try.func14, Try.ntmps14
  go_upto_region 1 with fail
  first | with_reducible refine name_wp ?_ | with_reducible refine name_calls ?_
  intro W hWeq
  have g0 : W.heap[cur.heap.size]? = some (.cells #[.int .u8 a.kind, .string a.n, .string a.o] 32) := by rw [hWeq]; repeat (first | (with_reducible exact blk_newAt _ _ (by simp)) | with_reducible refine blk_drew ?_ | with_reducible refine blk_dN ?_ _ | with_reducible refine blk_old ?_ _)
  have hw : Below cur.heap.size cur W := by rw [hWeq]; repeat (first | with_reducible exact Below.refl _ _ | with_reducible refine Below.drew ?_ | with_reducible refine bl_dN ?_ _ | with_reducible refine Below.alloc ?_ (by simp <;> omega) _)
  clear hWeq
  have hz : cur.heap.size + 1 ≤ W.heap.size := by have := blk_lt g0; omega
  have c0_0 : W.cell? ⟨cur.heap.size, 0, none⟩ = some (.int .u8 a.kind) := blk_cell g0 0
  have c0_1 : W.cell? ⟨cur.heap.size, 1, none⟩ = some (.string a.n) := blk_cell g0 1
  have c0_2 : W.cell? ⟨cur.heap.size, 2, none⟩ = some (.string a.o) := blk_cell g0 2
  have f0 : ∀ j, W.frozen? ⟨cur.heap.size, j, none⟩ = false := blk_free g0
  have hB : Below W.heap.size W W := Below.refl _ _
  have G0 := Lib.hid g0; clear g0
  have F0 := Lib.hid f0; clear f0
  have Hw := Lib.hid hw; clear hw
  have SS := Lib.hid (H.out.read Hw.out)
  clear H
  go_wp2_with fail
  refine (create_ts SS.out G _ _ hs hp r M HR.out).mono ?_
  rintro e w' ⟨rfl, S, hk⟩
  go_wp2_with fail
  go_ret
  exact ⟨rfl, S, (kept_of_below Hw.out).trans hk (fun n hn => .inl hn)⟩
end
end Go.Proofs.Ythaipgbjnigkhaa

import Derived.Test.YthaipgbjnigkhaaTt1
import Derived.Test.YthaipgbjnigkhaaTsg
namespace Go.Proofs.Ythaipgbjnigkhaa
open Go.RowKit Go.Shelf Go.Maps
set_option linter.unusedVariables false
set_option linter.unusedSimpArgs false
set_option linter.unusedSectionVars false
/-! ### Both trees side by side -/
theorem treeX_ref {cur : World} {base rp tp mb : Nat} {v : Value} {N N2 : Nodes} (R : RefT cur base rp v N) (ht : TreeAt cur tp mb N2) : ∀ k, treeX tp mb k → ¬ refTX rp v k := by
  rintro k hk hr
  have hc : ∃ cs T, cur.heap[k]? = some (.cells cs T) ∧ T ≠ 86 := by
    rcases hr with rfl | q
    · exact ⟨_, _, R.box, by decide⟩
    · obtain ⟨_, cs, hc⟩ := rw_type R.row q
      exact ⟨cs, _, hc, by decide⟩
  obtain ⟨cs, T, hc, hT⟩ := hc
  rcases hk with rfl | rfl
  · rw [ht.box] at hc; cases hc; exact hT rfl
  · exact mv_other ht.map hc rfl
theorem refT_wrote {cur w' : World} {base rp tp mb : Nat} {v : Value} {N N2 : Nodes} (R : RefT cur base rp v N) (ht : TreeAt cur tp mb N2) (hk : Kept (treeX tp mb) cur w') : RefT w' base rp v N :=
  R.kept hk (fun k hr hx => treeX_ref R ht k hx hr)
theorem ts_ref {w cur w' : World} {rp tp mb : Nat} {v : Value} {N N2 : Nodes} (S : TS w cur tp mb N2) (R : RefT cur w.heap.size rp v N) (hk : Kept (fun q => q = rp) cur w') : TS w w' tp mb N2 :=
  S.kept hk (fun k hx e => treeX_ref R S.at' k hx (.inl e)) (fun k e => by rw [e]; exact R.bas)
section
variable {cur : World} {base rp : Nat} {v : Value} {N : Nodes}
set_option maxRecDepth 100000 in
set_option maxHeartbeats 4000000 in
theorem wantT_calls (h : RefT cur base rp v N) (G : Good11 N) (a : ActT) (h0 : 0 ≤ a.kind) (h1 : a.kind ≤ 255) (hs : a.n.size ≤ 1000) (hp : a.o.size ≤ 1000) (r : Int) (M : Nodes) (hr : doT N a = (r, M)) :
    Calls Try.prog 15 #[.pointer (some ⟨rp, 0, none⟩), actVT a] cur fun e w' => e = .returned (.int .i64 r) ∧ ∃ u, RefT w' base rp u M ∧ Kept (fun q => q = rp) cur w' := by
  obtain ⟨m, hm⟩ : ∃ m, a.kind % 4 = m := ⟨_, rfl⟩
  have hT : a.kind.tmod 4 = m := by rw [Int.tmod_eq_emod_of_nonneg h0]; exact hm
  have hl : N.length ≤ 1000000 := by have := G.few; omega
  have HD := Lib.hid (show ∀ x, (pathT N x).length < 19 from fun x => by have := G.deep x; omega)
  have H := Lib.hid h
  by_cases q2 : m = 2
  · subst q2
    have f0 : (a.kind % 4 == 2) = true := by rw [hm]; rfl
    have HR := Lib.hid (show moveR N a.n a.o = (r, M) by rw [← hr]; unfold doT; rw [hT, if_pos rfl])
    clear hm hT h hr
    unfold actVT
    go_enter Try.func15, Try.ntmps15
    go_upto_region 1 with fail
    first | with_reducible refine name_wp ?_ | with_reducible refine name_calls ?_
    intro W hWeq
    have g0 : W.heap[cur.heap.size]? = some (.cells #[.int .u8 a.kind, .string a.n, .string a.o] 32) := by rw [hWeq]; repeat (first | (with_reducible exact blk_newAt _ _ (by simp)) | with_reducible refine blk_drew ?_ | with_reducible refine blk_dN ?_ _ | with_reducible refine blk_old ?_ _)
    have hw : Below cur.heap.size cur W := by rw [hWeq]; repeat (first | with_reducible exact Below.refl _ _ | with_reducible refine Below.drew ?_ | with_reducible refine bl_dN ?_ _ | with_reducible refine Below.alloc ?_ (by simp <;> omega) _)
    clear hWeq
    have hz : cur.heap.size + 1 ≤ W.heap.size := by have := blk_lt g0; omega
    have c0_0 : W.cell? ⟨cur.heap.size, 0, none⟩ = some (.int .u8 a.kind) := blk_cell g0 0
    have c0_1 : W.cell? ⟨cur.heap.size, 1, none⟩ = some (.string a.n) := blk_cell g0 1
    have c0_2 : W.cell? ⟨cur.heap.size, 2, none⟩ = some (.string a.o) := blk_cell g0 2
    have f0 : ∀ j, W.frozen? ⟨cur.heap.size, j, none⟩ = false := blk_free g0
    have hB : Below W.heap.size W W := Below.refl _ _
    have G0 := Lib.hid g0; clear g0
    have F0 := Lib.hid f0; clear f0
    have Hw := Lib.hid hw; clear hw
    have SS := Lib.hid (H.out.below Hw.out)
    clear H
    go_wp2_with fail
    refine (rmoveT_calls _ SS.out G _ _ r M HR.out).mono ?_
    rintro e w' ⟨rfl, u, R, hk⟩
    go_wp2_with fail
    go_ret
    exact ⟨rfl, u, R, (kept_of_below Hw.out).trans hk (fun n hn => .inl hn)⟩
  have f0 : (a.kind % 4 == 2) = false := by rw [hm]; simpa using q2
  by_cases q3 : m = 3
  · subst q3
    have f1 : (a.kind % 4 == 3) = true := by rw [hm]; rfl
    have HR := Lib.hid (show removeR N a.n = (r, M) by rw [← hr]; unfold doT; rw [hT, if_neg (by decide), if_pos rfl])
    clear hm hT h hr
    unfold actVT
    go_enter Try.func15, Try.ntmps15
    go_upto_region 1 with fail
    first | with_reducible refine name_wp ?_ | with_reducible refine name_calls ?_
    intro W hWeq
    have g0 : W.heap[cur.heap.size]? = some (.cells #[.int .u8 a.kind, .string a.n, .string a.o] 32) := by rw [hWeq]; repeat (first | (with_reducible exact blk_newAt _ _ (by simp)) | with_reducible refine blk_drew ?_ | with_reducible refine blk_dN ?_ _ | with_reducible refine blk_old ?_ _)
    have hw : Below cur.heap.size cur W := by rw [hWeq]; repeat (first | with_reducible exact Below.refl _ _ | with_reducible refine Below.drew ?_ | with_reducible refine bl_dN ?_ _ | with_reducible refine Below.alloc ?_ (by simp <;> omega) _)
    clear hWeq
    have hz : cur.heap.size + 1 ≤ W.heap.size := by have := blk_lt g0; omega
    have c0_0 : W.cell? ⟨cur.heap.size, 0, none⟩ = some (.int .u8 a.kind) := blk_cell g0 0
    have c0_1 : W.cell? ⟨cur.heap.size, 1, none⟩ = some (.string a.n) := blk_cell g0 1
    have c0_2 : W.cell? ⟨cur.heap.size, 2, none⟩ = some (.string a.o) := blk_cell g0 2
    have f0 : ∀ j, W.frozen? ⟨cur.heap.size, j, none⟩ = false := blk_free g0
    have hB : Below W.heap.size W W := Below.refl _ _
    have G0 := Lib.hid g0; clear g0
    have F0 := Lib.hid f0; clear f0
    have Hw := Lib.hid hw; clear hw
    have SS := Lib.hid (H.out.below Hw.out)
    clear H
    go_wp2_with fail
    refine (rremoveT_calls _ SS.out _ hl r M HR.out).mono ?_
    rintro e w' ⟨rfl, u, R, hk⟩
    go_wp2_with fail
    go_ret
    exact ⟨rfl, u, R, (kept_of_below Hw.out).trans hk (fun n hn => .inl hn)⟩
  have f1 : (a.kind % 4 == 3) = false := by rw [hm]; simpa using q3
  have HR := Lib.hid (show createR N a.n a.o = (r, M) by rw [← hr]; unfold doT; rw [hT, if_neg q2, if_neg q3])
  clear hm hT h hr
  unfold actVT
  go_enter Try.func15, Try.ntmps15
  go_upto_region 1 with fail
  first | with_reducible refine name_wp ?_ | with_reducible refine name_calls ?_
  intro W hWeq
  have g0 : W.heap[cur.heap.size]? = some (.cells #[.int .u8 a.kind, .string a.n, .string a.o] 32) := by rw [hWeq]; repeat (first | (with_reducible exact blk_newAt _ _ (by simp)) | with_reducible refine blk_drew ?_ | with_reducible refine blk_dN ?_ _ | with_reducible refine blk_old ?_ _)
  have hw : Below cur.heap.size cur W := by rw [hWeq]; repeat (first | with_reducible exact Below.refl _ _ | with_reducible refine Below.drew ?_ | with_reducible refine bl_dN ?_ _ | with_reducible refine Below.alloc ?_ (by simp <;> omega) _)
  clear hWeq
  have hz : cur.heap.size + 1 ≤ W.heap.size := by have := blk_lt g0; omega
  have c0_0 : W.cell? ⟨cur.heap.size, 0, none⟩ = some (.int .u8 a.kind) := blk_cell g0 0
  have c0_1 : W.cell? ⟨cur.heap.size, 1, none⟩ = some (.string a.n) := blk_cell g0 1
  have c0_2 : W.cell? ⟨cur.heap.size, 2, none⟩ = some (.string a.o) := blk_cell g0 2
  have f0 : ∀ j, W.frozen? ⟨cur.heap.size, j, none⟩ = false := blk_free g0
  have hB : Below W.heap.size W W := Below.refl _ _
  have G0 := Lib.hid g0; clear g0
  have F0 := Lib.hid f0; clear f0
  have Hw := Lib.hid hw; clear hw
  have SS := Lib.hid (H.out.below Hw.out)
  clear H
  go_wp2_with fail
  refine (rcreateT_calls _ SS.out G.rise HD.out _ _ hl G.fit hs r M HR.out).mono ?_
  rintro e w' ⟨rfl, u, R, hk⟩
  go_wp2_with fail
  go_ret
  exact ⟨rfl, u, R, (kept_of_below Hw.out).trans hk (fun n hn => .inl hn)⟩
end
/-! No tree. -/
theorem create_nil (w : World) (s p : ByteArray) : Calls Try.prog 31 #[.pointer none, .string s, .string p] w fun e w' => e = .returned (.int .i64 1) ∧ Below w.heap.size w w' := by
  have hB := Below.refl w.heap.size w
  go_enter Try.func31, Try.ntmps31
  go_wp2_with fail
  go_ret
  exact ⟨rfl, by first | exact hB | exact hB.drew | (repeat (first | exact hB | apply Below.drew))⟩
theorem remove_nil (w : World) (s : ByteArray) : Calls Try.prog 30 #[.pointer none, .string s] w fun e w' => e = .returned (.int .i64 1) ∧ Below w.heap.size w w' := by
  have hB := Below.refl w.heap.size w
  go_enter Try.func30, Try.ntmps30
  go_wp2_with fail
  go_ret
  exact ⟨rfl, by first | exact hB | exact hB.drew | (repeat (first | exact hB | apply Below.drew))⟩
theorem move_nil (w : World) (s p : ByteArray) : Calls Try.prog 59 #[.pointer none, .string s, .string p] w fun e w' => e = .returned (.int .i64 1) ∧ Below w.heap.size w w' := by
  have hB := Below.refl w.heap.size w
  go_enter Try.func59, Try.ntmps59
  go_wp2_with fail
  go_ret
  exact ⟨rfl, by first | exact hB | exact hB.drew | (repeat (first | exact hB | apply Below.drew))⟩
set_option maxRecDepth 100000 in
set_option maxHeartbeats 4000000 in
theorem doT_nil (w : World) (k : Nat) (hk : k < 4) (s p : ByteArray) : Calls Try.prog 14 #[.pointer none, .agg #[.int .u8 k, .string s, .string p]] w fun e w' => e = .returned (.int .i64 1) ∧ Below w.heap.size w w' := by
  have hcase : k = 0 ∨ k = 1 ∨ k = 2 ∨ k = 3 := by omega
  rcases hcase with rfl | rfl | rfl | rfl
  · go_enter Try.func14, Try.ntmps14
    go_upto_region 1 with fail
    first | with_reducible refine name_wp ?_ | with_reducible refine name_calls ?_
    intro W hWeq
    have g0 : W.heap[w.heap.size]? = some (.cells #[.int .u8 0, .string s, .string p] 32) := by rw [hWeq]; repeat (first | (with_reducible exact blk_newAt _ _ (by simp)) | with_reducible refine blk_drew ?_ | with_reducible refine blk_dN ?_ _ | with_reducible refine blk_old ?_ _)
    have hw : Below w.heap.size w W := by rw [hWeq]; repeat (first | with_reducible exact Below.refl _ _ | with_reducible refine Below.drew ?_ | with_reducible refine bl_dN ?_ _ | with_reducible refine Below.alloc ?_ (by simp <;> omega) _)
    clear hWeq
    have hz : w.heap.size + 1 ≤ W.heap.size := by have := blk_lt g0; omega
    have c0_0 : W.cell? ⟨w.heap.size, 0, none⟩ = some (.int .u8 0) := blk_cell g0 0
    have c0_1 : W.cell? ⟨w.heap.size, 1, none⟩ = some (.string s) := blk_cell g0 1
    have c0_2 : W.cell? ⟨w.heap.size, 2, none⟩ = some (.string p) := blk_cell g0 2
    have f0 : ∀ j, W.frozen? ⟨w.heap.size, j, none⟩ = false := blk_free g0
    have hB : Below W.heap.size W W := Below.refl _ _
    have G0 := Lib.hid g0; clear g0
    have F0 := Lib.hid f0; clear f0
    have Hw := Lib.hid hw; clear hw
    go_wp2_with fail
    refine (create_nil _ _ _).mono ?_
    rintro e w' ⟨rfl, hb⟩
    go_wp2_with fail
    go_ret
    exact ⟨rfl, bl_from Hw.out hb⟩
  · go_enter Try.func14, Try.ntmps14
    go_upto_region 1 with fail
    first | with_reducible refine name_wp ?_ | with_reducible refine name_calls ?_
    intro W hWeq
    have g0 : W.heap[w.heap.size]? = some (.cells #[.int .u8 1, .string s, .string p] 32) := by rw [hWeq]; repeat (first | (with_reducible exact blk_newAt _ _ (by simp)) | with_reducible refine blk_drew ?_ | with_reducible refine blk_dN ?_ _ | with_reducible refine blk_old ?_ _)
    have hw : Below w.heap.size w W := by rw [hWeq]; repeat (first | with_reducible exact Below.refl _ _ | with_reducible refine Below.drew ?_ | with_reducible refine bl_dN ?_ _ | with_reducible refine Below.alloc ?_ (by simp <;> omega) _)
    clear hWeq
    have hz : w.heap.size + 1 ≤ W.heap.size := by have := blk_lt g0; omega
    have c0_0 : W.cell? ⟨w.heap.size, 0, none⟩ = some (.int .u8 1) := blk_cell g0 0
    have c0_1 : W.cell? ⟨w.heap.size, 1, none⟩ = some (.string s) := blk_cell g0 1
    have c0_2 : W.cell? ⟨w.heap.size, 2, none⟩ = some (.string p) := blk_cell g0 2
    have f0 : ∀ j, W.frozen? ⟨w.heap.size, j, none⟩ = false := blk_free g0
    have hB : Below W.heap.size W W := Below.refl _ _
    have G0 := Lib.hid g0; clear g0
    have F0 := Lib.hid f0; clear f0
    have Hw := Lib.hid hw; clear hw
    go_wp2_with fail
    refine (create_nil _ _ _).mono ?_
    rintro e w' ⟨rfl, hb⟩
    go_wp2_with fail
    go_ret
    exact ⟨rfl, bl_from Hw.out hb⟩
  · go_enter Try.func14, Try.ntmps14
    go_upto_region 1 with fail
    first | with_reducible refine name_wp ?_ | with_reducible refine name_calls ?_
    intro W hWeq
    have g0 : W.heap[w.heap.size]? = some (.cells #[.int .u8 2, .string s, .string p] 32) := by rw [hWeq]; repeat (first | (with_reducible exact blk_newAt _ _ (by simp)) | with_reducible refine blk_drew ?_ | with_reducible refine blk_dN ?_ _ | with_reducible refine blk_old ?_ _)
    have hw : Below w.heap.size w W := by rw [hWeq]; repeat (first | with_reducible exact Below.refl _ _ | with_reducible refine Below.drew ?_ | with_reducible refine bl_dN ?_ _ | with_reducible refine Below.alloc ?_ (by simp <;> omega) _)
    clear hWeq
    have hz : w.heap.size + 1 ≤ W.heap.size := by have := blk_lt g0; omega
    have c0_0 : W.cell? ⟨w.heap.size, 0, none⟩ = some (.int .u8 2) := blk_cell g0 0
    have c0_1 : W.cell? ⟨w.heap.size, 1, none⟩ = some (.string s) := blk_cell g0 1
    have c0_2 : W.cell? ⟨w.heap.size, 2, none⟩ = some (.string p) := blk_cell g0 2
    have f0 : ∀ j, W.frozen? ⟨w.heap.size, j, none⟩ = false := blk_free g0
    have hB : Below W.heap.size W W := Below.refl _ _
    have G0 := Lib.hid g0; clear g0
    have F0 := Lib.hid f0; clear f0
    have Hw := Lib.hid hw; clear hw
    go_wp2_with fail
    refine (move_nil _ _ _).mono ?_
    rintro e w' ⟨rfl, hb⟩
    go_wp2_with fail
    go_ret
    exact ⟨rfl, bl_from Hw.out hb⟩
  · go_enter Try.func14, Try.ntmps14
    go_upto_region 1 with fail
    first | with_reducible refine name_wp ?_ | with_reducible refine name_calls ?_
    intro W hWeq
    have g0 : W.heap[w.heap.size]? = some (.cells #[.int .u8 3, .string s, .string p] 32) := by rw [hWeq]; repeat (first | (with_reducible exact blk_newAt _ _ (by simp)) | with_reducible refine blk_drew ?_ | with_reducible refine blk_dN ?_ _ | with_reducible refine blk_old ?_ _)
    have hw : Below w.heap.size w W := by rw [hWeq]; repeat (first | with_reducible exact Below.refl _ _ | with_reducible refine Below.drew ?_ | with_reducible refine bl_dN ?_ _ | with_reducible refine Below.alloc ?_ (by simp <;> omega) _)
    clear hWeq
    have hz : w.heap.size + 1 ≤ W.heap.size := by have := blk_lt g0; omega
    have c0_0 : W.cell? ⟨w.heap.size, 0, none⟩ = some (.int .u8 3) := blk_cell g0 0
    have c0_1 : W.cell? ⟨w.heap.size, 1, none⟩ = some (.string s) := blk_cell g0 1
    have c0_2 : W.cell? ⟨w.heap.size, 2, none⟩ = some (.string p) := blk_cell g0 2
    have f0 : ∀ j, W.frozen? ⟨w.heap.size, j, none⟩ = false := blk_free g0
    have hB : Below W.heap.size W W := Below.refl _ _
    have G0 := Lib.hid g0; clear g0
    have F0 := Lib.hid f0; clear f0
    have Hw := Lib.hid hw; clear hw
    go_wp2_with fail
    refine (remove_nil _ _).mono ?_
    rintro e w' ⟨rfl, hb⟩
    go_wp2_with fail
    go_ret
    exact ⟨rfl, bl_from Hw.out hb⟩
end Go.Proofs.Ythaipgbjnigkhaa

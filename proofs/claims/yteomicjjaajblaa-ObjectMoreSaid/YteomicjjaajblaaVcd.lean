import Derived.Test.YteomicjjaajblaaVcb
import Derived.Test.YteomicjjaajblaaSli
import Derived.Test.YteomicjjaajblaaSeq
import Derived.Deep.CutBlock
namespace Go.Proofs.Yteomicjjaajblaa
open Go.RowKit
set_option linter.unusedVariables false
set_option linter.unusedSimpArgs false
/-! ### Vectors in memory -/
def encE (p : ByteArray × Int) : List Value := [.string p.1, .int .i64 (whi p.2), .int .u64 (wlo p.2)]
def vecC (v : Vec) : List Value := v.flatMap encE
theorem vecC_len (v : Vec) : (vecC v).length = v.length * 3 := by
  induction v with
  | nil => rfl
  | cons p r ih => simp only [vecC, List.flatMap_cons, List.length_append, List.length_cons] at ih ⊢; rw [ih]; simp [encE]; omega
theorem vecC_get : ∀ (v : Vec) (k : Nat) (hk : k < v.length) (j : Nat), j < 3 → (vecC v)[k * 3 + j]? = (encE (v[k]'hk))[j]?
  | p :: r, 0, _, j, hj => by
    show (encE p ++ vecC r)[0 * 3 + j]? = (encE p)[j]?
    rw [Nat.zero_mul, Nat.zero_add, List.getElem?_append_left (by simp [encE]; exact hj)]
  | p :: r, k + 1, hk, j, hj => by
    show (encE p ++ vecC r)[(k + 1) * 3 + j]? = _
    have hl : (encE p).length = 3 := rfl
    rw [List.getElem?_append_right (by rw [hl]; omega), hl, show (k + 1) * 3 + j - 3 = k * 3 + j by omega]
    exact vecC_get r k (by simpa using hk) j hj
def VecS (w : World) (x : Value) (v : Vec) : Prop := SliS w x 3 v.length (vecC v) ∧ ∀ p ∈ v, wIn p.2 = true
section
variable {w w' : World} {x : Value} {v : Vec}
theorem VecS.form (h : VecS w x v) : ∃ A c, x = .slice A v.length c := h.1.form
theorem VecS.below (h : VecS w x v) (hb : Below w.heap.size w w') : VecS w' x v := ⟨h.1.below hb, h.2⟩
theorem vecS_nil (w : World) : VecS w (.slice none 0 0) [] := ⟨sliS_nil w 3, by rintro p ⟨⟩⟩
theorem VecS.at' (h : VecS w x v) {k : Nat} (hk : k < v.length) : ∃ b off c, x = .slice (some ⟨b, off, none⟩) v.length c ∧ w.cell? ⟨b, off + k * 3, none⟩ = some (.string (v[k]'hk).1) ∧ w.cell? ⟨b, off + k * 3 + 1, none⟩ = some (.int .i64 (whi (v[k]'hk).2)) ∧ w.cell? ⟨b, off + k * 3 + 2, none⟩ = some (.int .u64 (wlo (v[k]'hk).2)) ∧ wIn (v[k]'hk).2 = true := by
  obtain ⟨b, off, c, hx, _, hc⟩ := h.1.at' hk
  refine ⟨b, off, c, hx, hc 0 (by decide) _ (by rw [vecC_get v k hk 0 (by decide)]; rfl), hc 1 (by decide) _ (by rw [vecC_get v k hk 1 (by decide)]; rfl), hc 2 (by decide) _ (by rw [vecC_get v k hk 2 (by decide)]; rfl), h.2 _ (List.getElem_mem hk)⟩
end
theorem right_size {s : ByteArray} (h : rightB s = true) : s.size ≤ 24 := by
  unfold rightB at h
  simp only [Bool.and_eq_true, decide_eq_true_eq] at h
  exact h.1.1.2
/-- A wide number that is none. -/
theorem wz_iff {x : Int} : (whi x = 0 ∧ wlo x = 0) ↔ x = 0 := by unfold whi wlo; omega
set_option maxRecDepth 100000 in
set_option maxHeartbeats 4000000 in
theorem vget_calls (w : World) {x : Value} {v : Vec} (h : VecS w x v) (s : ByteArray) (hl : v.length ≤ 1000000) :
    Calls Try.prog 22 #[x, .string s] w fun e w' => e = .returned (wideV (getV v s)) ∧ Below w.heap.size w w' := by
  have hB := Below.refl w.heap.size w
  have H := Lib.hid h
  obtain ⟨ax, cx, rfl⟩ := h.form
  clear h
  go_enter Try.func22, Try.ntmps22
  go_upto_region 1 with fail
  first | with_reducible refine name_wp ?_ | with_reducible refine name_calls ?_
  intro W hWeq
  have g0 : W.heap[w.heap.size]? = some (.cells #[.int .i64 0, .int .u64 0] 40) := by rw [hWeq]; repeat (first | (with_reducible exact blk_newAt _ _ (by simp)) | with_reducible refine blk_drew ?_ | with_reducible refine blk_dN ?_ _ | with_reducible refine blk_old ?_ _)
  have hw : Below w.heap.size w W := by rw [hWeq]; repeat (first | with_reducible exact Below.refl _ _ | with_reducible refine Below.drew ?_ | with_reducible refine bl_dN ?_ _ | with_reducible refine Below.alloc ?_ (by simp <;> omega) _)
  clear hWeq
  have hz : w.heap.size + 1 ≤ W.heap.size := by have := blk_lt g0; omega
  have c0_0 : W.cell? ⟨w.heap.size, 0, none⟩ = some (.int .i64 0) := blk_cell g0 0
  have c0_1 : W.cell? ⟨w.heap.size, 1, none⟩ = some (.int .u64 0) := blk_cell g0 1
  have f0 : ∀ j, W.frozen? ⟨w.heap.size, j, none⟩ = false := blk_free g0
  have hB : Below W.heap.size W W := Below.refl _ _
  have G0 := Lib.hid g0; clear g0
  have F0 := Lib.hid f0; clear f0
  have Hw := Lib.hid hw; clear hw
  have HW := Lib.hid (H.out.below Hw.out)
  go_wp2_with fail
  go_loopw [9] (fun i wr => ∃ k : Nat, i = .int .i64 k ∧ k ≤ v.length ∧ Hid (∀ j (hj : j < v.length), j < k → (v[j]'hj).1 ≠ s) ∧ Below W.heap.size W wr) (fun i _ => v.length - (intOf i).toNat)
  case atStart => exact ⟨0, rfl, Nat.zero_le _, Lib.hid fun j hj h => absurd h (Nat.not_lt_zero _), hB⟩
  case round =>
    clear hB
    obtain ⟨k, rfl, hk, HN, hB⟩ := hrel
    have k0 := cb hB c0_0
    have k1 := cb hB c0_1
    have f0 := fb hB (lt_of_cell c0_0) (F0.out 0)
    have f1 := fb hB (lt_of_cell c0_1) (F0.out 1)
    have hlt := lt_of_cell k0
    by_cases hkl : k < v.length
    · have hkI : (k : Int) < v.length := by omega
      obtain ⟨b, o, c, he, q0, q1, q2, hin⟩ := HW.out.at' hkl
      cases he
      have q0 := cb hB q0; have q1 := cb hB q1; have q2 := cb hB q2
      have HP := Lib.hid (show ∃ p, v[k]'hkl = p from ⟨_, rfl⟩)
      have FIN := Lib.hid (show (v[k]'hkl).1 = s → getV v s = (v[k]'hkl).2 from fun e => by
        unfold getV getA
        have : v.find? (fun p => decide (p.1 = s)) = some (v[k]'hkl) := by
          rw [List.find?_eq_some_iff_getElem]
          exact ⟨by simpa using e, k, hkl, rfl, fun j hj => by simpa using HN.out j (by omega) hj⟩
        rw [this]; rfl)
      have STEP := Lib.hid (show (v[k]'hkl).1 ≠ s → ∀ j (hj : j < v.length), j < k + 1 → (v[j]'hj).1 ≠ s from fun hne j hj hjk => by
        rcases Nat.lt_or_ge j k with q | q
        · exact HN.out j hj q
        · obtain rfl : j = k := by omega
          exact hne)
      clear HP hin
      generalize v[k]'hkl = p at q0 q1 q2 FIN STEP
      obtain ⟨V, rfl⟩ : ∃ V : World, V = wr := ⟨_, rfl⟩
      have HBV := Lib.hid hB
      have hVw : W.heap.size ≤ V.heap.size := hB.size
      clear hB
      have hB := Below.refl V.heap.size V
      by_cases hps : p.1 = s
      · have hbf : (p.1.toList == s.toList) = true := by rw [hps]; simp
        have HPS := Lib.hid hps
        clear hps
        have HE := Lib.hid (FIN.out HPS.out)
        go_wp2_with fail
        refine name_body ?_
        intro U hU
        have hb9 := bl_from Hw.out HBV.out
        have hbU : Below w.heap.size w U := by rw [hU]; exact ((hb9.setCell (Nat.le_refl _) _).setCell (Nat.le_refl _) _).alloc (by simpa using hb9.size) _
        have r0 : U.cell? ⟨w.heap.size, 0, none⟩ = some (.int .i64 (whi p.2)) := by rw [hU]; go_simp
        have r1 : U.cell? ⟨w.heap.size, 1, none⟩ = some (.int .u64 (wlo p.2)) := by rw [hU]; go_simp
        clear hU
        refine bodyPost_ret (v := .agg #[.int .i64 (whi p.2), .int .u64 (wlo p.2)]) (by simp [results, Try.results22, go_sem, r0, r1]) rfl ⟨by rw [HE.out]; rfl, hbU⟩
      · have hbf : (p.1.toList == s.toList) = false := by
          simp only [beq_eq_false_iff_ne, ne_eq]; intro e; exact hps (ByteArray.ext (Array.toList_inj.1 (by rw [← Lib.toList_data, ← Lib.toList_data]; exact e)))
        have HPS := Lib.hid hps
        clear hps
        go_wp2_with fail
        go_roundw
        case rel => exact ⟨k + 1, by simp, by omega, Lib.hid (STEP.out HPS.out), HBV.out.alloc HBV.out.size _⟩
        case measure => simp [intOf]; omega
    · obtain rfl : k = v.length := by omega
      have HE := Lib.hid (show getV v s = 0 from getV_none fun q hq => by
        obtain ⟨j, hj, rfl⟩ := List.getElem_of_mem hq
        exact HN.out j hj hj)
      have hlt := lt_of_cell k0
      go_wp2_with fail
      refine name_body ?_
      intro U hU
      have hb9 := bl_from Hw.out hB
      have hbU : Below w.heap.size w U := by rw [hU]; exact (hb9.setCell (Nat.le_refl _) _).setCell (Nat.le_refl _) _
      have r0 : U.cell? ⟨w.heap.size, 0, none⟩ = some (.int .i64 0) := by rw [hU]; go_simp
      have r1 : U.cell? ⟨w.heap.size, 1, none⟩ = some (.int .u64 0) := by rw [hU]; go_simp
      clear hU
      refine bodyPost_ret (v := .agg #[.int .i64 0, .int .u64 0]) (by simp [results, Try.results22, go_sem, r0, r1]) rfl ⟨by rw [HE.out]; rfl, hbU⟩
end Go.Proofs.Yteomicjjaajblaa

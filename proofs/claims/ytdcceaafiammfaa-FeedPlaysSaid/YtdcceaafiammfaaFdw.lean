import Derived.Test.YtdcceaafiammfaaFdv
import Derived.Test.YtdcceaafiammfaaFdn
namespace Go.Proofs.Ytdcceaafiammfaa
open Go.RowKit
set_option linter.unusedVariables false
set_option linter.unusedSimpArgs false
theorem refX_feedX {cur : World} {base fp rb : Nat} {v kv iv : Value} {l m : List Item} {cov c2 : Nat} (h : FeedAt cur fp v l cov) (r : RefAt cur base rb kv iv m c2) : ∀ k, refX rb kv iv k → ¬ feedX fp v k := by
  intro k hk
  rcases hk with rfl | hk | hk
  · exact feedX_other h r.box (by decide) (by decide)
  · obtain ⟨_, cs, hc⟩ := rw_type r.keys hk
    exact feedX_other h hc (by decide) (by decide)
  · obtain ⟨_, cs, hc⟩ := rw_type r.is hk
    exact feedX_other h hc (by decide) (by decide)
theorem refX_ge {cur : World} {base rb : Nat} {kv iv : Value} {m : List Item} {c2 : Nat} (r : RefAt cur base rb kv iv m c2) (hb : base ≤ rb) : ∀ k, refX rb kv iv k → base ≤ k := by
  intro k hk
  rcases hk with rfl | hk | hk
  · exact hb
  · exact (rw_type r.keys hk).1
  · exact (rw_type r.is hk).1
theorem openM_length' (l : List Item) (cov : Nat) : (openM l cov).length ≤ l.length := Nat.le_trans (List.length_filter_le _ _) (openTo_length l cov _)
theorem own_row {w : World} {b : Nat} {e : TypeId} {v : Value} {xs : List Value} (h : Own w b e v xs) : w.ownsRow b e 1 v xs.length xs := h
set_option maxRecDepth 100000 in
set_option maxHeartbeats 16000000 in
theorem feedPlays_law (w : World) (A : Option Addr) (cap : Nat) (xs : List ActX) (h : Acts w A xs) :
    Calls Try.prog 3 #[.slice A xs.length cap] w fun e w' => e = .returned (.bool true) ∧ Below w.heap.size w w' := by
  have hB := Below.refl w.heap.size w
  have H := Lib.hid h
  clear h
  cases hf : fitsB xs with
  | false =>
    have HF := Lib.hid hf
    clear hf
    go_enter Try.func3, Try.ntmps3
    go_wp2_with (first | (go_at_call 12; refine (fits10_calls _ _ _ _ H.out).mono ?_; rintro e w' ⟨rfl, hb⟩; rw [HF.out]; have hB := bl_next hB hb; clear hb) | (go_at_call 13; refine (alive10_calls _).mono ?_; rintro e w' ⟨rfl, hb⟩; have hB := bl_next hB hb; clear hb))
    go_ret
    exact ⟨rfl, hB⟩
  | true =>
    obtain ⟨hl, hfit⟩ := fitsB_spec hf
    have HF := Lib.hid hf
    have HFIT := Lib.hid hfit
    clear hf hfit
    go_enter Try.func3, Try.ntmps3
    go_upto_region 5 with (first | (go_at_call 12; refine (fits10_calls _ _ _ _ H.out).mono ?_; rintro e w' ⟨rfl, hb⟩; rw [HF.out]; have hB := bl_next hB hb; clear hb) | (go_at_call 14; refine (new_fs w _ hB).mono ?_; rintro e w1 ⟨rfl, S, hb⟩; have S0 := Lib.hid S; clear S hb))
    generalize w'.heap.size = fp at S0
    obtain ⟨V, rfl⟩ : ∃ V : World, V = w1 := ⟨_, rfl⟩
    clear hB
    have hBV := Lib.hid ((Below.refl V.heap.size V).alloc (Nat.le_refl _) (.cells #[.slice none 0 0, .slice none 0 0, .int .i64 0] 31))
    have S1 := Lib.hid (S0.out.read hBV.out)
    have R1 := Lib.hid (show RefAt (V.alloc (.cells #[.slice none 0 0, .slice none 0 0, .int .i64 0] 31)) w.heap.size V.heap.size (.slice none 0 0) (.slice none 0 0) [] 0 from ⟨blk_new V _, World.ownsRow_nil _ _ _ _, World.ownsRow_nil _ _ _ _⟩)
    have hrb := Lib.hid S0.out.below.size
    go_wp2_with fail
    generalize V.heap.size = rb at S1 R1 hrb
    go_loopw [6] (fun i wr => ∃ (k cov : Nat) (v kv iv : Value) (l : List Item), i = .int .i64 k ∧ k ≤ xs.length ∧ l.length ≤ k ∧ Good l cov ∧ St2 l ∧ FS w wr fp v l cov ∧ RefAt wr w.heap.size rb kv iv l cov) (fun i _ => xs.length - (intOf i).toNat)
    case atStart => exact ⟨0, 0, _, _, _, [], rfl, Nat.zero_le _, Nat.le_refl _, ⟨Nat.zero_le _, fun x hx => by cases hx⟩, (fun x hx => by cases hx), S1.out, R1.out⟩
    case round =>
      obtain ⟨k, cov, v, kv, iv, l, rfl, hk, hlk, hg, hst2, S, R⟩ := hrel
      have SS := Lib.hid S
      have RR := Lib.hid R
      have HG := Lib.hid hg
      have HST := Lib.hid hst2
      clear S R hg hst2
      by_cases hkl : k < xs.length
      · have hkI : (k : Int) < xs.length := by omega
        obtain ⟨b, off, rfl, hbA, c0, c1, c2', c3, c4, q⟩ := H.out.at' k hkl
        have c0 := cb SS.out.below c0; have c1 := cb SS.out.below c1; have c2' := cb SS.out.below c2'; have c3 := cb SS.out.below c3; have c4 := cb SS.out.below c4
        have hgd := good_do HG.out (xs[k]'hkl) (HFIT.out k hkl)
        have hdl := do_length l cov (xs[k]'hkl)
        have hs2 := st2_do (cov := cov) HST.out (xs[k]'hkl)
        obtain ⟨r, hr⟩ : ∃ r, doR l cov (xs[k]'hkl) = r := ⟨_, rfl⟩
        obtain ⟨a, ha⟩ : ∃ a, xs[k]'hkl = a := ⟨_, rfl⟩
        rw [ha] at c0 c1 c2' c3 c4 q hr hgd hdl hs2
        rw [hr] at hgd hdl hs2
        obtain ⟨e2, l2, c2⟩ := r
        simp only at hgd hdl hs2
        obtain ⟨q0, q1, q2, q3⟩ := q
        have HR := Lib.hid hr
        have HGD := Lib.hid hgd
        have HS2 := Lib.hid hs2
        have hl2 : l2.length ≤ k + 1 := by omega
        clear hr ha hgd hs2 hdl
        go_wp2_with fail
        refine (do_fs SS.out (by omega) a q0 q1 e2 l2 c2 HR.out).mono ?_
        rintro e w3 ⟨rfl, v2, S, hk3⟩
        have hnx : ∀ k : Nat, k < w.heap.size → ¬ feedX fp v k := fun k hk hx => by have := SS.out.base k hx; omega
        have c0 := hk3.cell c0 (hnx _ hbA); have c1 := hk3.cell c1 (hnx _ hbA); have c2' := hk3.cell c2' (hnx _ hbA); have c3 := hk3.cell c3 (hnx _ hbA); have c4 := hk3.cell c4 (hnx _ hbA)
        have R3 := Lib.hid (RR.out.kept hk3 (refX_feedX SS.out.at' RR.out))
        have S3 := Lib.hid S
        clear S hk3 SS RR hnx
        go_wp2_with fail
        refine (want_calls _ R3.out (by omega) S3.out.below.size HST.out a q0 q1).mono ?_
        rw [HR.out]
        rintro e w4 ⟨rfl, kv2, iv2, R, hk4⟩
        have S4 := Lib.hid (S3.out.kept hk4 (fun k hf hr => refX_feedX S3.out.at' R3.out k hr hf) (refX_ge R3.out hrb.out))
        have R4 := Lib.hid R
        clear R hk4 S3 R3 c0 c1 c2' c3 c4
        go_wp2_with fail
        refine (open_fs S4.out (by omega) _ rfl).mono ?_
        rintro e w5 ⟨u1, rfl, ho, S, hb⟩
        have O1 := Lib.hid (show w5.ownsRow w4.heap.size 3 1 u1 (openM l2 c2).length (natC (openM l2 c2)) by have := own_row ho; rw [openP_eq] at this; simpa [natC] using this)
        have S5 := Lib.hid S
        have R5 := Lib.hid (R4.out.below hb)
        clear ho S hb S4 R4
        obtain ⟨ao1, cp1, rfl⟩ := rw_form O1.out
        go_wp2_with fail
        refine (ropen_calls _ R5.out (by omega)).mono ?_
        rintro e w6 ⟨u2, rfl, ho, hb⟩
        have O2 := Lib.hid ho
        have O1' := Lib.hid (rw_below O1.out hb)
        have S6 := Lib.hid (S5.out.read hb)
        have R6 := Lib.hid (R5.out.below hb)
        clear ho hb S5 R5 O1
        obtain ⟨ao2, cp2, rfl⟩ := rw_form O2.out
        have hom : (openM l2 c2).length ≤ 1000000 := by have := openM_length' l2 c2; omega
        go_wp2_with fail
        refine (rints_same _ O1'.out O2.out hom).mono ?_
        rintro e w7 ⟨rfl, hb⟩
        have S7 := Lib.hid (S6.out.read hb)
        have R7 := Lib.hid (R6.out.below hb)
        clear hb S6 R6 O1' O2
        go_upto_region 12 with fail
        obtain ⟨W, rfl⟩ : ∃ W : World, W = w7 := ⟨_, rfl⟩
        obtain ⟨ak, ck, ai, ci, rfl, rfl⟩ := R7.out.lens
        have d0 := blk_cell R7.out.box 0
        have hB := Below.refl W.heap.size W
        have hB := hB.drew
        refine region_seq (fun w' => Below W.heap.size W w') [(0, true), (1, true), (2, true), (3, true), (4, true), (5, true), (6, true), (7, true), (8, true), (10, true), (11, true), (12, true), (13, true), (14, true), (9, false), (15, true), (16, true), (17, true), (18, true), (20, true), (19, false), (21, false), (22, true), (23, true), (24, true), (25, true), (27, true), (26, false), (28, false), (29, true), (30, true)] (by kernel_rfl) (by kernel_rfl) (fun _ _ _ _ h => h) hB ?_
        try generalize World.drew _ = wS at hB ⊢
        refine seq_take (v := ?_) (a' := ?_) (some 43) rfl rfl (by rfl) ?_ ?_ ?_
        rotate_left; rotate_left
        · intro w' hS; go_simp; with_reducible rfl
        · simp only [Act.put, List.setIfInBounds_toArray, List.set_cons_zero, List.set_cons_succ]; rfl
        refine seq_take (v := ?_) (a' := ?_) (some 44) rfl rfl (by rfl) ?_ ?_ ?_
        rotate_left; rotate_left
        · intro w' hS; go_simp; with_reducible rfl
        · simp only [Act.put, List.setIfInBounds_toArray, List.set_cons_zero, List.set_cons_succ]; rfl
        refine seq_take (v := ?_) (a' := ?_) (some 45) rfl rfl (by rfl) ?_ ?_ ?_
        rotate_left; rotate_left
        · intro w' hS; go_simp; with_reducible rfl
        · simp only [Act.put, List.setIfInBounds_toArray, List.set_cons_zero, List.set_cons_succ]; rfl
        refine seq_take (v := ?_) (a' := ?_) (some 46) rfl rfl (by rfl) ?_ ?_ ?_
        rotate_left; rotate_left
        · intro w' hS; go_simp; with_reducible rfl
        · simp only [Act.put, List.setIfInBounds_toArray, List.set_cons_zero, List.set_cons_succ]; rfl
        refine seq_take (v := ?_) (a' := ?_) (some 47) rfl rfl (by rfl) ?_ ?_ ?_
        rotate_left; rotate_left
        · intro w' hS; go_simp; with_reducible rfl
        · simp only [Act.put, List.setIfInBounds_toArray, List.set_cons_zero, List.set_cons_succ]; rfl
        refine seq_take (v := ?_) (a' := ?_) (some 48) rfl rfl (by rfl) ?_ ?_ ?_
        rotate_left; rotate_left
        · intro w' hS; go_simp; with_reducible rfl
        · simp only [Act.put, List.setIfInBounds_toArray, List.set_cons_zero, List.set_cons_succ]; rfl
        refine seq_take (v := ?_) (a' := ?_) (some 49) rfl rfl (by rfl) ?_ ?_ ?_
        rotate_left; rotate_left
        · intro w' hS; go_simp; with_reducible rfl
        · simp only [Act.put, List.setIfInBounds_toArray, List.set_cons_zero, List.set_cons_succ]; rfl
        refine seq_take (v := ?_) (a' := ?_) (some 50) rfl rfl (by rfl) ?_ ?_ ?_
        rotate_left; rotate_left
        · intro w' hS; go_simp; with_reducible rfl
        · simp only [Act.put, List.setIfInBounds_toArray, List.set_cons_zero, List.set_cons_succ]; rfl
        refine seq_take (v := ?_) (a' := ?_) (some 51) rfl rfl (by rfl) ?_ ?_ ?_
        rotate_left; rotate_left
        · intro w' hS; go_simp; with_reducible rfl
        · simp only [Act.put, List.setIfInBounds_toArray, List.set_cons_zero, List.set_cons_succ]; rfl
        refine seq_take (v := ?_) (a' := ?_) (some 53) rfl rfl (by rfl) ?_ ?_ ?_
        rotate_left; rotate_left
        · intro w' hS; go_simp; with_reducible rfl
        · simp only [Act.put, List.setIfInBounds_toArray, List.set_cons_zero, List.set_cons_succ]; rfl
        refine seq_take (v := ?_) (a' := ?_) (some 54) rfl rfl (by rfl) ?_ ?_ ?_
        rotate_left; rotate_left
        · intro w' hS; go_simp; with_reducible rfl
        · simp only [Act.put, List.setIfInBounds_toArray, List.set_cons_zero, List.set_cons_succ]; rfl
        refine seq_take (v := ?_) (a' := ?_) (some 55) rfl rfl (by rfl) ?_ ?_ ?_
        rotate_left; rotate_left
        · intro w' hS; go_simp; with_reducible rfl
        · simp only [Act.put, List.setIfInBounds_toArray, List.set_cons_zero, List.set_cons_succ]; rfl
        refine seq_take (v := ?_) (a' := ?_) (some 56) rfl rfl (by rfl) ?_ ?_ ?_
        rotate_left; rotate_left
        · intro w' hS; have z0 := cb hS d0; go_simp; with_reducible rfl
        · simp only [Act.put, List.setIfInBounds_toArray, List.set_cons_zero, List.set_cons_succ]; rfl
        refine seq_take (v := ?_) (a' := ?_) (some 57) rfl rfl (by rfl) ?_ ?_ ?_
        rotate_left; rotate_left
        · intro w' hS; go_simp; with_reducible rfl
        · simp only [Act.put, List.setIfInBounds_toArray, List.set_cons_zero, List.set_cons_succ]; rfl
        refine seq_call (args := ?_) Try.func20 (by kernel_rfl) rfl (some 52) rfl rfl (by rfl) rfl ?_ ?_
        rotate_left
        · simp only [List.map_toArray, List.map_cons, List.map_nil]; go_simp; rfl
        with_reducible refine (flen_calls _ (S7.out.at'.below hB)).mono ?_
        rintro e w' ⟨rfl, hb⟩
        refine ⟨_, rfl, bl_next (by repeat (first | with_reducible exact hB | refine Below.alloc ?_ (by have := hB.size; simp; omega) _ | refine bl_dN ?_ _ | refine Below.drew ?_ | refine Below.setCell ?_ (by have := hB.size; simp; omega) _)) hb, ?_⟩
        have hB := bl_next (by repeat (first | with_reducible exact hB | refine Below.alloc ?_ (by have := hB.size; simp; omega) _ | refine bl_dN ?_ _ | refine Below.drew ?_ | refine Below.setCell ?_ (by have := hB.size; simp; omega) _)) hb; clear hb
        simp only [Act.put, List.setIfInBounds_toArray, List.set_cons_zero, List.set_cons_succ]
        refine seq_take (v := ?_) (a' := ?_) (some 58) rfl rfl (by rfl) ?_ ?_ ?_
        rotate_left; rotate_left
        · intro w' hS; go_simp; with_reducible rfl
        · simp only [Act.put, List.setIfInBounds_toArray, List.set_cons_zero, List.set_cons_succ]; rfl
        refine seq_take (v := ?_) (a' := ?_) (some 59) rfl rfl (by rfl) ?_ ?_ ?_
        rotate_left; rotate_left
        · intro w' hS; go_simp; with_reducible rfl
        · simp only [Act.put, List.setIfInBounds_toArray, List.set_cons_zero, List.set_cons_succ]; rfl
        refine seq_take (v := ?_) (a' := ?_) (some 60) rfl rfl (by rfl) ?_ ?_ ?_
        rotate_left; rotate_left
        · intro w' hS; go_simp; with_reducible rfl
        · simp only [Act.put, List.setIfInBounds_toArray, List.set_cons_zero, List.set_cons_succ]; rfl
        refine seq_take (v := ?_) (a' := ?_) (some 61) rfl rfl (by rfl) ?_ ?_ ?_
        rotate_left; rotate_left
        · intro w' hS; go_simp; with_reducible rfl
        · simp only [Act.put, List.setIfInBounds_toArray, List.set_cons_zero, List.set_cons_succ]; rfl
        refine seq_take (v := ?_) (a' := ?_) (some 63) rfl rfl (by rfl) ?_ ?_ ?_
        rotate_left; rotate_left
        · intro w' hS; go_simp; with_reducible rfl
        · simp only [Act.put, List.setIfInBounds_toArray, List.set_cons_zero, List.set_cons_succ]; rfl
        refine seq_call (args := ?_) Try.func21 (by kernel_rfl) rfl (some 62) rfl rfl (by rfl) rfl ?_ ?_
        rotate_left
        · simp only [List.map_toArray, List.map_cons, List.map_nil]; go_simp; rfl
        with_reducible refine (fsafe_calls _ (S7.out.at'.below hB) (by omega)).mono ?_
        rintro e w' ⟨rfl, hb⟩
        refine ⟨_, rfl, bl_next (by repeat (first | with_reducible exact hB | refine Below.alloc ?_ (by have := hB.size; simp; omega) _ | refine bl_dN ?_ _ | refine Below.drew ?_ | refine Below.setCell ?_ (by have := hB.size; simp; omega) _)) hb, ?_⟩
        have hB := bl_next (by repeat (first | with_reducible exact hB | refine Below.alloc ?_ (by have := hB.size; simp; omega) _ | refine bl_dN ?_ _ | refine Below.drew ?_ | refine Below.setCell ?_ (by have := hB.size; simp; omega) _)) hb; clear hb
        simp only [Act.put, List.setIfInBounds_toArray, List.set_cons_zero, List.set_cons_succ]
        refine seq_call (args := ?_) Try.func22 (by kernel_rfl) rfl (some 64) rfl rfl (by rfl) rfl ?_ ?_
        rotate_left
        · simp only [List.map_toArray, List.map_cons, List.map_nil]; go_simp; rfl
        with_reducible refine (rsafe_calls _ (R7.out.below hB) (by omega)).mono ?_
        rintro e w' ⟨rfl, hb⟩
        refine ⟨_, rfl, bl_next (by repeat (first | with_reducible exact hB | refine Below.alloc ?_ (by have := hB.size; simp; omega) _ | refine bl_dN ?_ _ | refine Below.drew ?_ | refine Below.setCell ?_ (by have := hB.size; simp; omega) _)) hb, ?_⟩
        have hB := bl_next (by repeat (first | with_reducible exact hB | refine Below.alloc ?_ (by have := hB.size; simp; omega) _ | refine bl_dN ?_ _ | refine Below.drew ?_ | refine Below.setCell ?_ (by have := hB.size; simp; omega) _)) hb; clear hb
        simp only [Act.put, List.setIfInBounds_toArray, List.set_cons_zero, List.set_cons_succ]
        refine seq_take (v := ?_) (a' := ?_) (some 65) rfl rfl (by rfl) ?_ ?_ ?_
        rotate_left; rotate_left
        · intro w' hS; go_simp; with_reducible rfl
        · simp only [Act.put, List.setIfInBounds_toArray, List.set_cons_zero, List.set_cons_succ]; rfl
        refine seq_take (v := ?_) (a' := ?_) (some 66) rfl rfl (by rfl) ?_ ?_ ?_
        rotate_left; rotate_left
        · intro w' hS; go_simp; with_reducible rfl
        · simp only [Act.put, List.setIfInBounds_toArray, List.set_cons_zero, List.set_cons_succ]; rfl
        refine seq_take (v := ?_) (a' := ?_) (some 67) rfl rfl (by rfl) ?_ ?_ ?_
        rotate_left; rotate_left
        · intro w' hS; go_simp; with_reducible rfl
        · simp only [Act.put, List.setIfInBounds_toArray, List.set_cons_zero, List.set_cons_succ]; rfl
        refine seq_take (v := ?_) (a' := ?_) (some 68) rfl rfl (by rfl) ?_ ?_ ?_
        rotate_left; rotate_left
        · intro w' hS; go_simp; with_reducible rfl
        · simp only [Act.put, List.setIfInBounds_toArray, List.set_cons_zero, List.set_cons_succ]; rfl
        refine seq_take (v := ?_) (a' := ?_) (some 70) rfl rfl (by rfl) ?_ ?_ ?_
        rotate_left; rotate_left
        · intro w' hS; go_simp; with_reducible rfl
        · simp only [Act.put, List.setIfInBounds_toArray, List.set_cons_zero, List.set_cons_succ]; rfl
        refine seq_call (args := ?_) Try.func23 (by kernel_rfl) rfl (some 69) rfl rfl (by rfl) rfl ?_ ?_
        rotate_left
        · simp only [List.map_toArray, List.map_cons, List.map_nil]; go_simp; rfl
        with_reducible refine (fsettledAll_calls _ (S7.out.at'.below hB) (by omega) HGD.out.fit).mono ?_
        rintro e w' ⟨rfl, hb⟩
        refine ⟨_, rfl, bl_next (by repeat (first | with_reducible exact hB | refine Below.alloc ?_ (by have := hB.size; simp; omega) _ | refine bl_dN ?_ _ | refine Below.drew ?_ | refine Below.setCell ?_ (by have := hB.size; simp; omega) _)) hb, ?_⟩
        have hB := bl_next (by repeat (first | with_reducible exact hB | refine Below.alloc ?_ (by have := hB.size; simp; omega) _ | refine bl_dN ?_ _ | refine Below.drew ?_ | refine Below.setCell ?_ (by have := hB.size; simp; omega) _)) hb; clear hb
        simp only [Act.put, List.setIfInBounds_toArray, List.set_cons_zero, List.set_cons_succ]
        refine seq_call (args := ?_) Try.func24 (by kernel_rfl) rfl (some 71) rfl rfl (by rfl) rfl ?_ ?_
        rotate_left
        · simp only [List.map_toArray, List.map_cons, List.map_nil]; go_simp; rfl
        with_reducible refine (rsettledAll_calls _ (R7.out.below hB) (by omega)).mono ?_
        rintro e w' ⟨rfl, hb⟩
        refine ⟨_, rfl, bl_next (by repeat (first | with_reducible exact hB | refine Below.alloc ?_ (by have := hB.size; simp; omega) _ | refine bl_dN ?_ _ | refine Below.drew ?_ | refine Below.setCell ?_ (by have := hB.size; simp; omega) _)) hb, ?_⟩
        have hB := bl_next (by repeat (first | with_reducible exact hB | refine Below.alloc ?_ (by have := hB.size; simp; omega) _ | refine bl_dN ?_ _ | refine Below.drew ?_ | refine Below.setCell ?_ (by have := hB.size; simp; omega) _)) hb; clear hb
        simp only [Act.put, List.setIfInBounds_toArray, List.set_cons_zero, List.set_cons_succ]
        refine seq_take (v := ?_) (a' := ?_) (some 72) rfl rfl (by rfl) ?_ ?_ ?_
        rotate_left; rotate_left
        · intro w' hS; go_simp; with_reducible rfl
        · simp only [Act.put, List.setIfInBounds_toArray, List.set_cons_zero, List.set_cons_succ]; rfl
        refine seq_take (v := ?_) (a' := ?_) (some 73) rfl rfl (by rfl) ?_ ?_ ?_
        rotate_left; rotate_left
        · intro w' hS; go_simp; with_reducible rfl
        · simp only [Act.put, List.setIfInBounds_toArray, List.set_cons_zero, List.set_cons_succ]; rfl
        refine seq_done ?_
        go_wp2_with fail
        go_roundw
        case rel => exact ⟨k + 1, c2, v2, _, _, l2, by simp, by omega, hl2, HGD.out, HS2.out, S7.out.read hB, R7.out.below hB⟩
        case measure => simp [intOf]; omega
      · have hkI : (xs.length : Int) ≤ k := by omega
        have HB0 := Lib.hid SS.out.below
        clear SS RR
        obtain ⟨W, rfl⟩ : ∃ W : World, W = wr := ⟨_, rfl⟩
        have hB := Below.refl W.heap.size W
        go_wp2_with fail
        go_loopw [11] (fun i wr => ∃ m : Nat, i = .int .i64 m ∧ m ≤ 7 ∧ Below W.heap.size W wr) (fun i _ => 7 - (intOf i).toNat)
        case atStart => exact ⟨0, rfl, by decide, hB⟩
        case round =>
          obtain ⟨m, rfl, hm, hB⟩ := hrel
          by_cases hm7 : m < 7
          · rcases (show m = 0 ∨ m = 1 ∨ m = 2 ∨ m = 3 ∨ m = 4 ∨ m = 5 ∨ m = 6 by omega) with rfl | rfl | rfl | rfl | rfl | rfl | rfl
            · go_wp2_with (go_at_call 15; refine (do_nil _ ⟨_, _, _, _, _⟩ (by decide) (by decide)).mono ?_; rintro e w9 ⟨rfl, hb⟩; rw [show nilE ⟨0, ⟨#[]⟩, ⟨#[]⟩, ⟨#[]⟩, 0⟩ = 0 from rfl]; have hB := bl_next hB hb; clear hb)
              go_roundw
              case rel => exact ⟨1, rfl, by decide, hB⟩
              case measure => simp [intOf]
            · go_wp2_with (go_at_call 15; refine (do_nil _ ⟨_, _, _, _, _⟩ (by decide) (by decide)).mono ?_; rintro e w9 ⟨rfl, hb⟩; rw [show nilE ⟨1, ⟨#[]⟩, ⟨#[]⟩, ⟨#[]⟩, 0⟩ = 0 from rfl]; have hB := bl_next hB hb; clear hb)
              go_roundw
              case rel => exact ⟨2, rfl, by decide, hB⟩
              case measure => simp [intOf]
            · go_wp2_with (go_at_call 15; refine (do_nil _ ⟨_, _, _, _, _⟩ (by decide) (by decide)).mono ?_; rintro e w9 ⟨rfl, hb⟩; rw [show nilE ⟨2, ⟨#[]⟩, ⟨#[]⟩, ⟨#[]⟩, 0⟩ = 1 from rfl]; have hB := bl_next hB hb; clear hb)
              go_roundw
              case rel => exact ⟨3, rfl, by decide, hB⟩
              case measure => simp [intOf]
            · go_wp2_with (go_at_call 15; refine (do_nil _ ⟨_, _, _, _, _⟩ (by decide) (by decide)).mono ?_; rintro e w9 ⟨rfl, hb⟩; rw [show nilE ⟨3, ⟨#[]⟩, ⟨#[]⟩, ⟨#[]⟩, 0⟩ = 1 from rfl]; have hB := bl_next hB hb; clear hb)
              go_roundw
              case rel => exact ⟨4, rfl, by decide, hB⟩
              case measure => simp [intOf]
            · go_wp2_with (go_at_call 15; refine (do_nil _ ⟨_, _, _, _, _⟩ (by decide) (by decide)).mono ?_; rintro e w9 ⟨rfl, hb⟩; rw [show nilE ⟨4, ⟨#[]⟩, ⟨#[]⟩, ⟨#[]⟩, 0⟩ = 1 from rfl]; have hB := bl_next hB hb; clear hb)
              go_roundw
              case rel => exact ⟨5, rfl, by decide, hB⟩
              case measure => simp [intOf]
            · go_wp2_with (go_at_call 15; refine (do_nil _ ⟨_, _, _, _, _⟩ (by decide) (by decide)).mono ?_; rintro e w9 ⟨rfl, hb⟩; rw [show nilE ⟨5, ⟨#[]⟩, ⟨#[]⟩, ⟨#[]⟩, 0⟩ = 1 from rfl]; have hB := bl_next hB hb; clear hb)
              go_roundw
              case rel => exact ⟨6, rfl, by decide, hB⟩
              case measure => simp [intOf]
            · go_wp2_with (go_at_call 15; refine (do_nil _ ⟨_, _, _, _, _⟩ (by decide) (by decide)).mono ?_; rintro e w9 ⟨rfl, hb⟩; rw [show nilE ⟨6, ⟨#[]⟩, ⟨#[]⟩, ⟨#[]⟩, 0⟩ = 1 from rfl]; have hB := bl_next hB hb; clear hb)
              go_roundw
              case rel => exact ⟨7, rfl, by decide, hB⟩
              case measure => simp [intOf]
          · obtain rfl : m = 7 := by omega
            go_wp2_with (first | (go_at_call 13; refine (alive10_calls _).mono ?_; rintro e w9 ⟨rfl, hb⟩; have hB := bl_next hB hb; clear hb) | (go_at_call 21; refine (fsafe_nil _).mono ?_; rintro e w9 ⟨rfl, hb⟩; have hB := bl_next hB hb; clear hb) | (go_at_call 23; refine (fsettledAll_nil _).mono ?_; rintro e w9 ⟨rfl, hb⟩; have hB := bl_next hB hb; clear hb) | (go_at_call 18; refine (fopen_nil _).mono ?_; rintro e w9 ⟨rfl, hb⟩; have hB := bl_next hB hb; clear hb) | (go_at_call 20; refine (flen_nil _).mono ?_; rintro e w9 ⟨rfl, hb⟩; have hB := bl_next hB hb; clear hb))
            go_ret
            exact ⟨rfl, bl_from HB0.out hB⟩
theorem feedPlaysWalk {W : World} (y : List ActX) (v : Value) (h : (kSlice kAct).K W anyB y [v]) : Calls Try.prog 3 #[v] W fun e W' => e = .returned (.bool true) ∧ Below W.heap.size W W' := by
  obtain ⟨A, c, hv, -, hr⟩ := h
  obtain rfl : v = .slice A y.length c := by simpa using hv
  exact feedPlays_law W A c y (acts_of hr)
end Go.Proofs.Ytdcceaafiammfaa

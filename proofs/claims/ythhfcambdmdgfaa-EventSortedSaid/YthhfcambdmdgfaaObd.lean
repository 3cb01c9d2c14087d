import Derived.Test.YthhfcambdmdgfaaObc
import Derived.IntWalk
namespace Go.Proofs.Ythhfcambdmdgfaa
open Go.RowKit Go.Maps
set_option linter.unusedVariables false
set_option linter.unusedSimpArgs false
theorem refKeyB_calls (a b c : ByteArray) (w : World) (ha : a.size ≤ 1000) (hb : b.size ≤ 1000) (hc : c.size ≤ 1000) :
    Calls Try.prog 62 #[.agg #[.string a, .string b, .string c]] w fun e w' => e = .returned (.bool (keyB a b c)) ∧ Below w.heap.size w w' :=
  (refKey_calls a b c w (by omega) (by omega) (by omega)).mono fun e w' h => ⟨h.1, h.2⟩
set_option maxRecDepth 100000 in
set_option maxHeartbeats 32000000 in
theorem roright_calls (w : World) {sl : Value} {o : ObjD} (h : ObjS w sl o) (hs : objSmall o) :
    Calls Try.prog 61 #[objV o sl] w fun e w' => e = .returned (.bool (rightO o)) ∧ Below w.heap.size w w' := by
  have hB := Below.refl w.heap.size w
  have H := Lib.hid h.1
  have HS := Lib.hid hs
  obtain ⟨al, cl, rfl⟩ := h.1.form
  obtain ⟨⟨hs1, hs2, hs3⟩, hs4, hs5, hs6⟩ := hs
  have HSZ := Lib.hid hs6
  have hv := h.2
  unfold in64 at hv
  obtain ⟨hv1, hv2⟩ := hv
  clear h hs6
  obtain ⟨l, hl⟩ : ∃ l, o.charge = l := ⟨_, rfl⟩
  have HO := Lib.hid (show rightO o = (keyOk o.key && decide (1 ≤ o.ver) && clsB o.cls && decide (l.length ≤ 16) && chargeB l) by rw [← hl]; rfl)
  unfold objV
  rw [hl] at H HSZ hs5 ⊢
  clear hl
  obtain ⟨⟨kk, ks, kn⟩, ver, cls, term, best, chg⟩ := o
  simp only at HO hs1 hs2 hs3 hs4 hv1 hv2 ⊢
  clear HS
  go_enter Try.func61, Try.ntmps61
  go_upto_region 1 with fail
  first | with_reducible refine name_wp ?_ | with_reducible refine name_calls ?_
  intro W hWeq
  have g0 : W.heap[w.heap.size]? = some (.cells #[.string kk, .string ks, .string kn, .int .i64 ver, .string cls, .bool term, .bool best, .slice al l.length cl] 27) := by rw [hWeq]; repeat (first | (with_reducible exact blk_newAt _ _ (by simp)) | with_reducible refine blk_drew ?_ | with_reducible refine blk_dN ?_ _ | with_reducible refine blk_old ?_ _)
  have hw : Below w.heap.size w W := by rw [hWeq]; repeat (first | with_reducible exact Below.refl _ _ | with_reducible refine Below.drew ?_ | with_reducible refine bl_dN ?_ _ | with_reducible refine Below.alloc ?_ (by simp <;> omega) _)
  clear hWeq
  have hz : w.heap.size + 1 ≤ W.heap.size := by have := blk_lt g0; omega
  have c0_0 : W.cell? ⟨w.heap.size, 0, none⟩ = some (.string kk) := blk_cell g0 0
  have c0_1 : W.cell? ⟨w.heap.size, 1, none⟩ = some (.string ks) := blk_cell g0 1
  have c0_2 : W.cell? ⟨w.heap.size, 2, none⟩ = some (.string kn) := blk_cell g0 2
  have c0_3 : W.cell? ⟨w.heap.size, 3, none⟩ = some (.int .i64 ver) := blk_cell g0 3
  have c0_4 : W.cell? ⟨w.heap.size, 4, none⟩ = some (.string cls) := blk_cell g0 4
  have c0_5 : W.cell? ⟨w.heap.size, 5, none⟩ = some (.bool term) := blk_cell g0 5
  have c0_6 : W.cell? ⟨w.heap.size, 6, none⟩ = some (.bool best) := blk_cell g0 6
  have c0_7 : W.cell? ⟨w.heap.size, 7, none⟩ = some (.slice al l.length cl) := blk_cell g0 7
  have f0 : ∀ j, W.frozen? ⟨w.heap.size, j, none⟩ = false := blk_free g0
  have hB : Below W.heap.size W W := Below.refl _ _
  have G0 := Lib.hid g0; clear g0
  have F0 := Lib.hid f0; clear f0
  have Hw := Lib.hid hw; clear hw
  have HW := Lib.hid (H.out.below Hw.out)
  have hWw := Hw.out.size
  have HKO := Lib.hid (show keyB kk ks kn = keyOk ⟨kk, ks, kn⟩ from rfl)
  obtain ⟨ko, hko⟩ : ∃ b, keyOk ⟨kk, ks, kn⟩ = b := ⟨_, rfl⟩
  have HKOE := Lib.hid hko
  rw [hko] at HKO
  obtain ⟨rc, hrc⟩ : ∃ b, rightB cls = b := ⟨_, rfl⟩
  have HRC := Lib.hid hrc
  have HCE : Hid (cls.toList = [] ↔ cls = ⟨#[]⟩) := Lib.hid ⟨fun e => ba_eq.1 (by rw [e, empty_list]), fun e => by rw [e, empty_list]⟩
  clear hko hrc
  cases ko with
  | false =>
    have HN := Lib.hid (show rightO ⟨⟨kk, ks, kn⟩, ver, cls, term, best, chg⟩ = false by rw [HO.out]; rw [HKOE.out]; simp)
    go_wp2_with (first | (go_at_call 62; refine (refKeyB_calls _ _ _ _ (by omega) (by omega) (by omega)).mono ?_; rintro e w' ⟨rfl, hb⟩; rw [HKO.out]; have hB := bl_next hB hb; have c0_0 := cb hb c0_0; have c0_1 := cb hb c0_1; have c0_2 := cb hb c0_2; have c0_3 := cb hb c0_3; have c0_4 := cb hb c0_4; have c0_5 := cb hb c0_5; have c0_6 := cb hb c0_6; have c0_7 := cb hb c0_7; clear hb) | (go_at_call 86; refine (rightR_calls _ _ (by omega)).mono ?_; rintro e w' ⟨rfl, hb⟩; rw [HRC.out]; have hB := bl_next hB hb; have c0_0 := cb hb c0_0; have c0_1 := cb hb c0_1; have c0_2 := cb hb c0_2; have c0_3 := cb hb c0_3; have c0_4 := cb hb c0_4; have c0_5 := cb hb c0_5; have c0_6 := cb hb c0_6; have c0_7 := cb hb c0_7; clear hb))
    go_ret
    exact ⟨ret_bool HN.out.symm, bl_from Hw.out hB⟩
  | true =>
    have HKO' := HKOE.out
    clear HKOE
    have HKOX := Lib.hid HKO'
    by_cases hcls : cls = ⟨#[]⟩
    · have hc1 : cls.toList = [] := HCE.out.2 hcls
      have HCB := Lib.hid (show clsB cls = true by unfold clsB; rw [decide_eq_true hcls]; rfl)
      have HRF : Hid (rightB cls = false) := Lib.hid (by rw [hcls]; rfl)
      obtain rfl : rc = false := HRC.out.symm.trans HRF.out
      clear HCE hcls HRF
      clear HKO'
      by_cases hver : 1 ≤ ver
      · have hv0 : ¬ ver < 1 := by omega
        have hv1 : decide (ver < 1) = false := decide_eq_false hv0
        by_cases h16 : l.length ≤ 16
        · have h16I : ¬ (16 : Int) < l.length := by omega
          have h16J : decide ((16 : Int) < l.length) = false := decide_eq_false h16I
          have HHD := Lib.hid (show (keyOk ⟨kk, ks, kn⟩ && decide (1 ≤ ver) && clsB cls && decide (l.length ≤ 16)) = true by rw [HKOX.out, HCB.out, decide_eq_true hver, decide_eq_true h16]; rfl)
          go_upto_region 5 with (first | (go_at_call 62; refine (refKeyB_calls _ _ _ _ (by omega) (by omega) (by omega)).mono ?_; rintro e w' ⟨rfl, hb⟩; rw [HKO.out]; have hB := bl_next hB hb; have c0_0 := cb hb c0_0; have c0_1 := cb hb c0_1; have c0_2 := cb hb c0_2; have c0_3 := cb hb c0_3; have c0_4 := cb hb c0_4; have c0_5 := cb hb c0_5; have c0_6 := cb hb c0_6; have c0_7 := cb hb c0_7; clear hb) | (go_at_call 86; refine (rightR_calls _ _ (by omega)).mono ?_; rintro e w' ⟨rfl, hb⟩; rw [HRC.out]; have hB := bl_next hB hb; have c0_0 := cb hb c0_0; have c0_1 := cb hb c0_1; have c0_2 := cb hb c0_2; have c0_3 := cb hb c0_3; have c0_4 := cb hb c0_4; have c0_5 := cb hb c0_5; have c0_6 := cb hb c0_6; have c0_7 := cb hb c0_7; clear hb))
          obtain ⟨W2, rfl⟩ : ∃ W2 : World, W2 = w' := ⟨_, rfl⟩
          have HW2 := Lib.hid (HW.out.below hB)
          have HB2 := Lib.hid (bl_from Hw.out hB)
          clear hB
          have hB := Below.refl W2.heap.size W2
          go_wp2_with fail
          go_loopw [5] (fun i wr => ∃ k : Nat, i = .int .i64 k ∧ k ≤ l.length ∧ Hid (chargeB (l.take k) = true) ∧ Below W2.heap.size W2 wr) (fun i _ => l.length - (intOf i).toNat)
          case atStart => exact ⟨0, rfl, Nat.zero_le _, Lib.hid rfl, hB⟩
          case round =>
            clear hB
            obtain ⟨k, rfl, hk, HR, hB⟩ := hrel
            have k7 := cb hB c0_7
            by_cases hkl : k < l.length
            · have hkI : (k : Int) < l.length := by omega
              obtain ⟨b, of, c, he, q0, q1, hin⟩ := HW2.out.at' hkl
              cases he
              have q0 := cb hB q0; have q1 := cb hB q1
              have hsz := HSZ.out _ (List.getElem_mem hkl)
              have NOT := Lib.hid (show chargeB (l.take (k + 1)) = false → rightO ⟨⟨kk, ks, kn⟩, ver, cls, term, best, chg⟩ = false from fun e => by rw [HO.out, chargeB_take e]; simp)
              have STEP := Lib.hid (chargeB_at hkl HR.out)
              have PREV : Hid (∀ h0 : 0 < k, ∃ s, (l[k - 1]'(by omega)).1 = s ∧ wr.cell? ⟨b, of + (k - 1) * 2, none⟩ = some (.string s) ∧ s.size ≤ 1000) := Lib.hid fun h0 => by
                obtain ⟨b', o', c', he', q0', _⟩ := HW2.out.at' (show k - 1 < l.length by omega)
                cases he'
                exact ⟨_, rfl, cb hB q0', HSZ.out _ (List.getElem_mem _)⟩
              clear hin
              obtain ⟨p, hp⟩ : ∃ p, l[k]'hkl = p := ⟨_, rfl⟩
              rw [hp] at q0 q1 hsz STEP
              clear hp
              obtain ⟨V, rfl⟩ : ∃ V : World, V = wr := ⟨_, rfl⟩
              have HBV := Lib.hid hB
              have hVw : W2.heap.size ≤ V.heap.size := hB.size
              clear hB
              have hB := Below.refl V.heap.size V
              by_cases hrt : rightB p.1 = true
              · by_cases hz : p.2 < 0
                · have HN := Lib.hid (NOT.out (by rw [STEP.out]; unfold resB; rw [show decide (0 ≤ p.2) = false by simpa using hz]; simp))
                  have hzd : decide (p.2 < 0) = true := by simpa using hz
                  go_wp2_with (go_at_call 86; refine (rightR_calls _ _ (by omega)).mono ?_; rintro e w' ⟨rfl, hb⟩; rw [hrt]; have hB := bl_next hB hb; have q0 := cb hb q0; have q1 := cb hb q1; have k7 := cb hb k7; clear hb)
                  go_ret
                  exact ⟨ret_bool HN.out.symm, bl_next HB2.out (bl_next HBV.out hB)⟩
                · have hzI : 0 ≤ p.2 := by omega
                  have hzd : decide (p.2 < 0) = false := by simpa using hzI
                  have HE := Lib.hid (show resB p = true by unfold resB; rw [hrt]; simpa using hzI)
                  by_cases h0 : k = 0
                  · subst h0
                    simp only [Nat.zero_mul, Nat.add_zero] at q0 q1
                    have HOK := Lib.hid (show chargeB (l.take 1) = true by have := STEP.out; rw [HE.out] at this; simpa using this)
                    go_wp2_with (go_at_call 86; refine (rightR_calls _ _ (by omega)).mono ?_; rintro e w' ⟨rfl, hb⟩; rw [hrt]; have hB := bl_next hB hb; have q0 := cb hb q0; have q1 := cb hb q1; have k7 := cb hb k7; clear hb)
                    go_roundw
                    case rel => exact ⟨1, rfl, by omega, HOK, bl_next HBV.out hB⟩
                    case measure => simp [intOf]; omega
                  · obtain ⟨s, hs, hc, hssz⟩ := PREV.out (by omega)
                    have hk0 : (0 : Int) < k := by omega
                    have hk1 : ((k : Int) - 1).toNat = k - 1 := by omega
                    have hk2 : (0 : Int) ≤ (k : Int) - 1 := by omega
                    have hk3 : (k : Int) - 1 < l.length := by omega
                    have hk4 : (1 : Int) ≤ k := by omega
                    have hk5 : 0 < k := by omega
                    have hk6 : decide (0 < k) = true := decide_eq_true hk5
                    have hk7 : IntKind.i64.wrap ((k : Int) - 1) = (k : Int) - 1 := IntWalk.i64_in _ (by omega)
                    have hk8 : 1 ≤ k := hk5
                    go_upto_region 12 with (go_at_call 86; refine (rightR_calls _ _ (by omega)).mono ?_; rintro e w' ⟨rfl, hb⟩; rw [hrt]; have hB := bl_next hB hb; have q0 := cb hb q0; have q1 := cb hb q1; have k7 := cb hb k7; clear hb)
                    obtain ⟨V2, rfl⟩ : ∃ V2 : World, V2 = w' := ⟨_, rfl⟩
                    have r0 := cb hB hc
                    have HBV2 := Lib.hid (bl_next HBV.out hB)
                    clear hB
                    have hB := Below.refl V2.heap.size V2
                    cases hlt : ltB s p.1 with
                    | true =>
                      have HLT := Lib.hid hlt
                      have HOK := Lib.hid (show chargeB (l.take (k + 1)) = true by have := STEP.out; rw [HE.out, dif_pos (by omega), hs, hlt] at this; simpa using this)
                      clear hlt
                      have hB := hB.drew
                      refine region_seq (fun w' => Below V2.heap.size V2 w') [(0, true), (1, true), (2, true), (3, true), (4, true), (5, true), (6, true), (7, true), (8, true), (9, true), (10, true), (11, true), (12, true), (13, false), (14, true)] (by kernel_rfl) (by kernel_rfl) (fun _ _ _ _ h => h) hB ?_
                      try generalize World.drew _ = wS at hB ⊢
                      refine seq_take (v := ?_) (a' := ?_) (some 63) rfl rfl (by rfl) ?_ ?_ ?_
                      rotate_left; rotate_left
                      · intro w' hS; go_simp; with_reducible rfl
                      · simp only [Act.put, List.setIfInBounds_toArray, List.set_cons_zero, List.set_cons_succ]; rfl
                      refine seq_take (v := ?_) (a' := ?_) (some 64) rfl rfl (by rfl) ?_ ?_ ?_
                      rotate_left; rotate_left
                      · intro w' hS; have p0 := cb hS q0; have p1 := cb hS r0; have p7 := cb hS k7; go_simp; with_reducible rfl
                      · simp only [Act.put, List.setIfInBounds_toArray, List.set_cons_zero, List.set_cons_succ]; rfl
                      refine seq_take (v := ?_) (a' := ?_) (some 65) rfl rfl (by rfl) ?_ ?_ ?_
                      rotate_left; rotate_left
                      · intro w' hS; go_simp; with_reducible rfl
                      · simp only [Act.put, List.setIfInBounds_toArray, List.set_cons_zero, List.set_cons_succ]; rfl
                      refine seq_take (v := ?_) (a' := ?_) (some 66) rfl rfl (by rfl) ?_ ?_ ?_
                      rotate_left; rotate_left
                      · intro w' hS; go_simp; with_reducible rfl
                      · simp only [Act.put, List.setIfInBounds_toArray, List.set_cons_zero, List.set_cons_succ]; rfl
                      refine seq_take (v := ?_) (a' := ?_) (some 67) rfl rfl (by rfl) ?_ ?_ ?_
                      rotate_left; rotate_left
                      · intro w' hS; go_simp; with_reducible rfl
                      · simp only [Act.put, List.setIfInBounds_toArray, List.set_cons_zero, List.set_cons_succ]; rfl
                      refine seq_take (v := ?_) (a' := ?_) (some 68) rfl rfl (by rfl) ?_ ?_ ?_
                      rotate_left; rotate_left
                      · intro w' hS; go_simp; with_reducible rfl
                      · simp only [Act.put, List.setIfInBounds_toArray, List.set_cons_zero, List.set_cons_succ]; rfl
                      refine seq_take (v := ?_) (a' := ?_) (some 69) rfl rfl (by rfl) ?_ ?_ ?_
                      rotate_left; rotate_left
                      · intro w' hS; have p0 := cb hS q0; have p1 := cb hS r0; have p7 := cb hS k7; go_simp; with_reducible rfl
                      · simp only [Act.put, List.setIfInBounds_toArray, List.set_cons_zero, List.set_cons_succ]; rfl
                      refine seq_take (v := ?_) (a' := ?_) (some 70) rfl rfl (by rfl) ?_ ?_ ?_
                      rotate_left; rotate_left
                      · intro w' hS; go_simp; with_reducible rfl
                      · simp only [Act.put, List.setIfInBounds_toArray, List.set_cons_zero, List.set_cons_succ]; rfl
                      refine seq_take (v := ?_) (a' := ?_) (some 71) rfl rfl (by rfl) ?_ ?_ ?_
                      rotate_left; rotate_left
                      · intro w' hS; have p0 := cb hS q0; have p1 := cb hS r0; have p7 := cb hS k7; go_simp; with_reducible rfl
                      · simp only [Act.put, List.setIfInBounds_toArray, List.set_cons_zero, List.set_cons_succ]; rfl
                      refine seq_take (v := ?_) (a' := ?_) (some 72) rfl rfl (by rfl) ?_ ?_ ?_
                      rotate_left; rotate_left
                      · intro w' hS; go_simp; with_reducible rfl
                      · simp only [Act.put, List.setIfInBounds_toArray, List.set_cons_zero, List.set_cons_succ]; rfl
                      refine seq_take (v := ?_) (a' := ?_) (some 73) rfl rfl (by rfl) ?_ ?_ ?_
                      rotate_left; rotate_left
                      · intro w' hS; go_simp; with_reducible rfl
                      · simp only [Act.put, List.setIfInBounds_toArray, List.set_cons_zero, List.set_cons_succ]; rfl
                      refine seq_take (v := ?_) (a' := ?_) (some 74) rfl rfl (by rfl) ?_ ?_ ?_
                      rotate_left; rotate_left
                      · intro w' hS; go_simp; with_reducible rfl
                      · simp only [Act.put, List.setIfInBounds_toArray, List.set_cons_zero, List.set_cons_succ]; rfl
                      refine seq_take (v := ?_) (a' := ?_) (some 75) rfl rfl (by rfl) ?_ ?_ ?_
                      rotate_left; rotate_left
                      · intro w' hS; have p0 := cb hS q0; have p1 := cb hS r0; have p7 := cb hS k7; go_simp; with_reducible rfl
                      · simp only [Act.put, List.setIfInBounds_toArray, List.set_cons_zero, List.set_cons_succ]; rfl
                      refine seq_call (args := ?_) Try.func81 (by kernel_rfl) rfl (some 76) rfl rfl (by rfl) rfl ?_ ?_
                      rotate_left
                      · simp only [List.map_toArray, List.map_cons, List.map_nil]; go_simp; rfl
                      with_reducible refine (beforeB_calls _ _ _ (by omega) (by omega)).mono ?_
                      rintro e w' ⟨rfl, hb⟩
                      rw [HLT.out]
                      refine ⟨_, rfl, bl_next (by repeat (first | with_reducible exact hB | refine Below.alloc ?_ (by have := hB.size; simp; omega) _ | refine bl_dN ?_ _ | refine Below.drew ?_ | refine Below.setCell ?_ (by have := hB.size; simp; omega) _)) hb, ?_⟩
                      have hB := bl_next (by repeat (first | with_reducible exact hB | refine Below.alloc ?_ (by have := hB.size; simp; omega) _ | refine bl_dN ?_ _ | refine Below.drew ?_ | refine Below.setCell ?_ (by have := hB.size; simp; omega) _)) hb; clear hb
                      simp only [Act.put, List.setIfInBounds_toArray, List.set_cons_zero, List.set_cons_succ]
                      refine seq_take (v := ?_) (a' := ?_) (some 7) rfl rfl (by rfl) ?_ ?_ ?_
                      rotate_left; rotate_left
                      · intro w' hS; go_simp; with_reducible rfl
                      · simp only [Act.put, List.setIfInBounds_toArray, List.set_cons_zero, List.set_cons_succ]; rfl
                      refine seq_done ?_
                      go_wp2_with fail
                      go_roundw
                      case rel => exact ⟨k + 1, by simp, by omega, HOK, bl_next HBV2.out hB⟩
                      case measure => simp [intOf]; omega
                    | false =>
                      have HLT := Lib.hid hlt
                      have HN := Lib.hid (NOT.out (by have := STEP.out; rw [HE.out, dif_pos (by omega), hs, hlt] at this; simpa using this))
                      clear hlt
                      have hB := hB.drew
                      refine region_seq (fun w' => Below V2.heap.size V2 w') [(0, true), (1, true), (2, true), (3, true), (4, true), (5, true), (6, true), (7, true), (8, true), (9, true), (10, true), (11, true), (12, true), (13, false), (14, true)] (by kernel_rfl) (by kernel_rfl) (fun _ _ _ _ h => h) hB ?_
                      try generalize World.drew _ = wS at hB ⊢
                      refine seq_take (v := ?_) (a' := ?_) (some 63) rfl rfl (by rfl) ?_ ?_ ?_
                      rotate_left; rotate_left
                      · intro w' hS; go_simp; with_reducible rfl
                      · simp only [Act.put, List.setIfInBounds_toArray, List.set_cons_zero, List.set_cons_succ]; rfl
                      refine seq_take (v := ?_) (a' := ?_) (some 64) rfl rfl (by rfl) ?_ ?_ ?_
                      rotate_left; rotate_left
                      · intro w' hS; have p0 := cb hS q0; have p1 := cb hS r0; have p7 := cb hS k7; go_simp; with_reducible rfl
                      · simp only [Act.put, List.setIfInBounds_toArray, List.set_cons_zero, List.set_cons_succ]; rfl
                      refine seq_take (v := ?_) (a' := ?_) (some 65) rfl rfl (by rfl) ?_ ?_ ?_
                      rotate_left; rotate_left
                      · intro w' hS; go_simp; with_reducible rfl
                      · simp only [Act.put, List.setIfInBounds_toArray, List.set_cons_zero, List.set_cons_succ]; rfl
                      refine seq_take (v := ?_) (a' := ?_) (some 66) rfl rfl (by rfl) ?_ ?_ ?_
                      rotate_left; rotate_left
                      · intro w' hS; go_simp; with_reducible rfl
                      · simp only [Act.put, List.setIfInBounds_toArray, List.set_cons_zero, List.set_cons_succ]; rfl
                      refine seq_take (v := ?_) (a' := ?_) (some 67) rfl rfl (by rfl) ?_ ?_ ?_
                      rotate_left; rotate_left
                      · intro w' hS; go_simp; with_reducible rfl
                      · simp only [Act.put, List.setIfInBounds_toArray, List.set_cons_zero, List.set_cons_succ]; rfl
                      refine seq_take (v := ?_) (a' := ?_) (some 68) rfl rfl (by rfl) ?_ ?_ ?_
                      rotate_left; rotate_left
                      · intro w' hS; go_simp; with_reducible rfl
                      · simp only [Act.put, List.setIfInBounds_toArray, List.set_cons_zero, List.set_cons_succ]; rfl
                      refine seq_take (v := ?_) (a' := ?_) (some 69) rfl rfl (by rfl) ?_ ?_ ?_
                      rotate_left; rotate_left
                      · intro w' hS; have p0 := cb hS q0; have p1 := cb hS r0; have p7 := cb hS k7; go_simp; with_reducible rfl
                      · simp only [Act.put, List.setIfInBounds_toArray, List.set_cons_zero, List.set_cons_succ]; rfl
                      refine seq_take (v := ?_) (a' := ?_) (some 70) rfl rfl (by rfl) ?_ ?_ ?_
                      rotate_left; rotate_left
                      · intro w' hS; go_simp; with_reducible rfl
                      · simp only [Act.put, List.setIfInBounds_toArray, List.set_cons_zero, List.set_cons_succ]; rfl
                      refine seq_take (v := ?_) (a' := ?_) (some 71) rfl rfl (by rfl) ?_ ?_ ?_
                      rotate_left; rotate_left
                      · intro w' hS; have p0 := cb hS q0; have p1 := cb hS r0; have p7 := cb hS k7; go_simp; with_reducible rfl
                      · simp only [Act.put, List.setIfInBounds_toArray, List.set_cons_zero, List.set_cons_succ]; rfl
                      refine seq_take (v := ?_) (a' := ?_) (some 72) rfl rfl (by rfl) ?_ ?_ ?_
                      rotate_left; rotate_left
                      · intro w' hS; go_simp; with_reducible rfl
                      · simp only [Act.put, List.setIfInBounds_toArray, List.set_cons_zero, List.set_cons_succ]; rfl
                      refine seq_take (v := ?_) (a' := ?_) (some 73) rfl rfl (by rfl) ?_ ?_ ?_
                      rotate_left; rotate_left
                      · intro w' hS; go_simp; with_reducible rfl
                      · simp only [Act.put, List.setIfInBounds_toArray, List.set_cons_zero, List.set_cons_succ]; rfl
                      refine seq_take (v := ?_) (a' := ?_) (some 74) rfl rfl (by rfl) ?_ ?_ ?_
                      rotate_left; rotate_left
                      · intro w' hS; go_simp; with_reducible rfl
                      · simp only [Act.put, List.setIfInBounds_toArray, List.set_cons_zero, List.set_cons_succ]; rfl
                      refine seq_take (v := ?_) (a' := ?_) (some 75) rfl rfl (by rfl) ?_ ?_ ?_
                      rotate_left; rotate_left
                      · intro w' hS; have p0 := cb hS q0; have p1 := cb hS r0; have p7 := cb hS k7; go_simp; with_reducible rfl
                      · simp only [Act.put, List.setIfInBounds_toArray, List.set_cons_zero, List.set_cons_succ]; rfl
                      refine seq_call (args := ?_) Try.func81 (by kernel_rfl) rfl (some 76) rfl rfl (by rfl) rfl ?_ ?_
                      rotate_left
                      · simp only [List.map_toArray, List.map_cons, List.map_nil]; go_simp; rfl
                      with_reducible refine (beforeB_calls _ _ _ (by omega) (by omega)).mono ?_
                      rintro e w' ⟨rfl, hb⟩
                      rw [HLT.out]
                      refine ⟨_, rfl, bl_next (by repeat (first | with_reducible exact hB | refine Below.alloc ?_ (by have := hB.size; simp; omega) _ | refine bl_dN ?_ _ | refine Below.drew ?_ | refine Below.setCell ?_ (by have := hB.size; simp; omega) _)) hb, ?_⟩
                      have hB := bl_next (by repeat (first | with_reducible exact hB | refine Below.alloc ?_ (by have := hB.size; simp; omega) _ | refine bl_dN ?_ _ | refine Below.drew ?_ | refine Below.setCell ?_ (by have := hB.size; simp; omega) _)) hb; clear hb
                      simp only [Act.put, List.setIfInBounds_toArray, List.set_cons_zero, List.set_cons_succ]
                      refine seq_take (v := ?_) (a' := ?_) (some 7) rfl rfl (by rfl) ?_ ?_ ?_
                      rotate_left; rotate_left
                      · intro w' hS; go_simp; with_reducible rfl
                      · simp only [Act.put, List.setIfInBounds_toArray, List.set_cons_zero, List.set_cons_succ]; rfl
                      refine seq_done ?_
                      go_wp2_with fail
                      go_ret
                      exact ⟨ret_bool HN.out.symm, bl_next HB2.out (bl_next HBV2.out hB)⟩
              · have hrf : rightB p.1 = false := by simpa using hrt
                have HN := Lib.hid (NOT.out (by rw [STEP.out]; unfold resB; rw [hrf]; simp))
                clear hrt
                go_wp2_with (go_at_call 86; refine (rightR_calls _ _ (by omega)).mono ?_; rintro e w' ⟨rfl, hb⟩; rw [hrf]; have hB := bl_next hB hb; have q0 := cb hb q0; have q1 := cb hb q1; have k7 := cb hb k7; clear hb)
                go_ret
                exact ⟨ret_bool HN.out.symm, bl_next HB2.out (bl_next HBV.out hB)⟩
            · obtain rfl : k = l.length := by omega
              have hR := HR.out
              rw [List.take_length] at hR
              have HE := Lib.hid (show rightO ⟨⟨kk, ks, kn⟩, ver, cls, term, best, chg⟩ = true by rw [HO.out, hR, HHD.out]; rfl)
              clear hR
              go_wp2_with fail
              go_ret
              exact ⟨ret_bool HE.out.symm, bl_next HB2.out hB⟩
        · have h16I : (16 : Int) < l.length := by omega
          have h16J : decide ((16 : Int) < l.length) = true := decide_eq_true h16I
          have HN := Lib.hid (show rightO ⟨⟨kk, ks, kn⟩, ver, cls, term, best, chg⟩ = false by rw [HO.out]; rw [decide_eq_false h16]; simp)
          go_wp2_with (first | (go_at_call 62; refine (refKeyB_calls _ _ _ _ (by omega) (by omega) (by omega)).mono ?_; rintro e w' ⟨rfl, hb⟩; rw [HKO.out]; have hB := bl_next hB hb; have c0_0 := cb hb c0_0; have c0_1 := cb hb c0_1; have c0_2 := cb hb c0_2; have c0_3 := cb hb c0_3; have c0_4 := cb hb c0_4; have c0_5 := cb hb c0_5; have c0_6 := cb hb c0_6; have c0_7 := cb hb c0_7; clear hb) | (go_at_call 86; refine (rightR_calls _ _ (by omega)).mono ?_; rintro e w' ⟨rfl, hb⟩; rw [HRC.out]; have hB := bl_next hB hb; have c0_0 := cb hb c0_0; have c0_1 := cb hb c0_1; have c0_2 := cb hb c0_2; have c0_3 := cb hb c0_3; have c0_4 := cb hb c0_4; have c0_5 := cb hb c0_5; have c0_6 := cb hb c0_6; have c0_7 := cb hb c0_7; clear hb))
          go_ret
          exact ⟨ret_bool HN.out.symm, bl_from Hw.out hB⟩
      · have hv0 : ver < 1 := by omega
        have hv1 : decide (ver < 1) = true := decide_eq_true hv0
        have HN := Lib.hid (show rightO ⟨⟨kk, ks, kn⟩, ver, cls, term, best, chg⟩ = false by rw [HO.out]; rw [decide_eq_false hver]; simp)
        go_wp2_with (first | (go_at_call 62; refine (refKeyB_calls _ _ _ _ (by omega) (by omega) (by omega)).mono ?_; rintro e w' ⟨rfl, hb⟩; rw [HKO.out]; have hB := bl_next hB hb; have c0_0 := cb hb c0_0; have c0_1 := cb hb c0_1; have c0_2 := cb hb c0_2; have c0_3 := cb hb c0_3; have c0_4 := cb hb c0_4; have c0_5 := cb hb c0_5; have c0_6 := cb hb c0_6; have c0_7 := cb hb c0_7; clear hb) | (go_at_call 86; refine (rightR_calls _ _ (by omega)).mono ?_; rintro e w' ⟨rfl, hb⟩; rw [HRC.out]; have hB := bl_next hB hb; have c0_0 := cb hb c0_0; have c0_1 := cb hb c0_1; have c0_2 := cb hb c0_2; have c0_3 := cb hb c0_3; have c0_4 := cb hb c0_4; have c0_5 := cb hb c0_5; have c0_6 := cb hb c0_6; have c0_7 := cb hb c0_7; clear hb))
        go_ret
        exact ⟨ret_bool HN.out.symm, bl_from Hw.out hB⟩
    · have hc1 : ¬ cls.toList = [] := fun e => hcls (HCE.out.1 e)
      have hc2 : (cls.toList == []) = false := by simpa using hc1
      have hc3 : cls.toList.isEmpty = false := by simpa using hc1
      have HCB := Lib.hid (show clsB cls = rc by unfold clsB; rw [decide_eq_false hcls, HRC.out]; rfl)
      clear HCE hcls
      clear HKO'
      cases rc with
      | false =>
        have HN := Lib.hid (show rightO ⟨⟨kk, ks, kn⟩, ver, cls, term, best, chg⟩ = false by rw [HO.out]; rw [HCB.out]; simp)
        go_wp2_with (first | (go_at_call 62; refine (refKeyB_calls _ _ _ _ (by omega) (by omega) (by omega)).mono ?_; rintro e w' ⟨rfl, hb⟩; rw [HKO.out]; have hB := bl_next hB hb; have c0_0 := cb hb c0_0; have c0_1 := cb hb c0_1; have c0_2 := cb hb c0_2; have c0_3 := cb hb c0_3; have c0_4 := cb hb c0_4; have c0_5 := cb hb c0_5; have c0_6 := cb hb c0_6; have c0_7 := cb hb c0_7; clear hb) | (go_at_call 86; refine (rightR_calls _ _ (by omega)).mono ?_; rintro e w' ⟨rfl, hb⟩; rw [HRC.out]; have hB := bl_next hB hb; have c0_0 := cb hb c0_0; have c0_1 := cb hb c0_1; have c0_2 := cb hb c0_2; have c0_3 := cb hb c0_3; have c0_4 := cb hb c0_4; have c0_5 := cb hb c0_5; have c0_6 := cb hb c0_6; have c0_7 := cb hb c0_7; clear hb))
        go_ret
        exact ⟨ret_bool HN.out.symm, bl_from Hw.out hB⟩
      | true =>
        by_cases hver : 1 ≤ ver
        · have hv0 : ¬ ver < 1 := by omega
          have hv1 : decide (ver < 1) = false := decide_eq_false hv0
          by_cases h16 : l.length ≤ 16
          · have h16I : ¬ (16 : Int) < l.length := by omega
            have h16J : decide ((16 : Int) < l.length) = false := decide_eq_false h16I
            have HHD := Lib.hid (show (keyOk ⟨kk, ks, kn⟩ && decide (1 ≤ ver) && clsB cls && decide (l.length ≤ 16)) = true by rw [HKOX.out, HCB.out, decide_eq_true hver, decide_eq_true h16]; rfl)
            go_upto_region 5 with (first | (go_at_call 62; refine (refKeyB_calls _ _ _ _ (by omega) (by omega) (by omega)).mono ?_; rintro e w' ⟨rfl, hb⟩; rw [HKO.out]; have hB := bl_next hB hb; have c0_0 := cb hb c0_0; have c0_1 := cb hb c0_1; have c0_2 := cb hb c0_2; have c0_3 := cb hb c0_3; have c0_4 := cb hb c0_4; have c0_5 := cb hb c0_5; have c0_6 := cb hb c0_6; have c0_7 := cb hb c0_7; clear hb) | (go_at_call 86; refine (rightR_calls _ _ (by omega)).mono ?_; rintro e w' ⟨rfl, hb⟩; rw [HRC.out]; have hB := bl_next hB hb; have c0_0 := cb hb c0_0; have c0_1 := cb hb c0_1; have c0_2 := cb hb c0_2; have c0_3 := cb hb c0_3; have c0_4 := cb hb c0_4; have c0_5 := cb hb c0_5; have c0_6 := cb hb c0_6; have c0_7 := cb hb c0_7; clear hb))
            obtain ⟨W2, rfl⟩ : ∃ W2 : World, W2 = w' := ⟨_, rfl⟩
            have HW2 := Lib.hid (HW.out.below hB)
            have HB2 := Lib.hid (bl_from Hw.out hB)
            clear hB
            have hB := Below.refl W2.heap.size W2
            go_wp2_with fail
            go_loopw [5] (fun i wr => ∃ k : Nat, i = .int .i64 k ∧ k ≤ l.length ∧ Hid (chargeB (l.take k) = true) ∧ Below W2.heap.size W2 wr) (fun i _ => l.length - (intOf i).toNat)
            case atStart => exact ⟨0, rfl, Nat.zero_le _, Lib.hid rfl, hB⟩
            case round =>
              clear hB
              obtain ⟨k, rfl, hk, HR, hB⟩ := hrel
              have k7 := cb hB c0_7
              by_cases hkl : k < l.length
              · have hkI : (k : Int) < l.length := by omega
                obtain ⟨b, of, c, he, q0, q1, hin⟩ := HW2.out.at' hkl
                cases he
                have q0 := cb hB q0; have q1 := cb hB q1
                have hsz := HSZ.out _ (List.getElem_mem hkl)
                have NOT := Lib.hid (show chargeB (l.take (k + 1)) = false → rightO ⟨⟨kk, ks, kn⟩, ver, cls, term, best, chg⟩ = false from fun e => by rw [HO.out, chargeB_take e]; simp)
                have STEP := Lib.hid (chargeB_at hkl HR.out)
                have PREV : Hid (∀ h0 : 0 < k, ∃ s, (l[k - 1]'(by omega)).1 = s ∧ wr.cell? ⟨b, of + (k - 1) * 2, none⟩ = some (.string s) ∧ s.size ≤ 1000) := Lib.hid fun h0 => by
                  obtain ⟨b', o', c', he', q0', _⟩ := HW2.out.at' (show k - 1 < l.length by omega)
                  cases he'
                  exact ⟨_, rfl, cb hB q0', HSZ.out _ (List.getElem_mem _)⟩
                clear hin
                obtain ⟨p, hp⟩ : ∃ p, l[k]'hkl = p := ⟨_, rfl⟩
                rw [hp] at q0 q1 hsz STEP
                clear hp
                obtain ⟨V, rfl⟩ : ∃ V : World, V = wr := ⟨_, rfl⟩
                have HBV := Lib.hid hB
                have hVw : W2.heap.size ≤ V.heap.size := hB.size
                clear hB
                have hB := Below.refl V.heap.size V
                by_cases hrt : rightB p.1 = true
                · by_cases hz : p.2 < 0
                  · have HN := Lib.hid (NOT.out (by rw [STEP.out]; unfold resB; rw [show decide (0 ≤ p.2) = false by simpa using hz]; simp))
                    have hzd : decide (p.2 < 0) = true := by simpa using hz
                    go_wp2_with (go_at_call 86; refine (rightR_calls _ _ (by omega)).mono ?_; rintro e w' ⟨rfl, hb⟩; rw [hrt]; have hB := bl_next hB hb; have q0 := cb hb q0; have q1 := cb hb q1; have k7 := cb hb k7; clear hb)
                    go_ret
                    exact ⟨ret_bool HN.out.symm, bl_next HB2.out (bl_next HBV.out hB)⟩
                  · have hzI : 0 ≤ p.2 := by omega
                    have hzd : decide (p.2 < 0) = false := by simpa using hzI
                    have HE := Lib.hid (show resB p = true by unfold resB; rw [hrt]; simpa using hzI)
                    by_cases h0 : k = 0
                    · subst h0
                      simp only [Nat.zero_mul, Nat.add_zero] at q0 q1
                      have HOK := Lib.hid (show chargeB (l.take 1) = true by have := STEP.out; rw [HE.out] at this; simpa using this)
                      go_wp2_with (go_at_call 86; refine (rightR_calls _ _ (by omega)).mono ?_; rintro e w' ⟨rfl, hb⟩; rw [hrt]; have hB := bl_next hB hb; have q0 := cb hb q0; have q1 := cb hb q1; have k7 := cb hb k7; clear hb)
                      go_roundw
                      case rel => exact ⟨1, rfl, by omega, HOK, bl_next HBV.out hB⟩
                      case measure => simp [intOf]; omega
                    · obtain ⟨s, hs, hc, hssz⟩ := PREV.out (by omega)
                      have hk0 : (0 : Int) < k := by omega
                      have hk1 : ((k : Int) - 1).toNat = k - 1 := by omega
                      have hk2 : (0 : Int) ≤ (k : Int) - 1 := by omega
                      have hk3 : (k : Int) - 1 < l.length := by omega
                      have hk4 : (1 : Int) ≤ k := by omega
                      have hk5 : 0 < k := by omega
                      have hk6 : decide (0 < k) = true := decide_eq_true hk5
                      have hk7 : IntKind.i64.wrap ((k : Int) - 1) = (k : Int) - 1 := IntWalk.i64_in _ (by omega)
                      have hk8 : 1 ≤ k := hk5
                      go_upto_region 12 with (go_at_call 86; refine (rightR_calls _ _ (by omega)).mono ?_; rintro e w' ⟨rfl, hb⟩; rw [hrt]; have hB := bl_next hB hb; have q0 := cb hb q0; have q1 := cb hb q1; have k7 := cb hb k7; clear hb)
                      obtain ⟨V2, rfl⟩ : ∃ V2 : World, V2 = w' := ⟨_, rfl⟩
                      have r0 := cb hB hc
                      have HBV2 := Lib.hid (bl_next HBV.out hB)
                      clear hB
                      have hB := Below.refl V2.heap.size V2
                      cases hlt : ltB s p.1 with
                      | true =>
                        have HLT := Lib.hid hlt
                        have HOK := Lib.hid (show chargeB (l.take (k + 1)) = true by have := STEP.out; rw [HE.out, dif_pos (by omega), hs, hlt] at this; simpa using this)
                        clear hlt
                        have hB := hB.drew
                        refine region_seq (fun w' => Below V2.heap.size V2 w') [(0, true), (1, true), (2, true), (3, true), (4, true), (5, true), (6, true), (7, true), (8, true), (9, true), (10, true), (11, true), (12, true), (13, false), (14, true)] (by kernel_rfl) (by kernel_rfl) (fun _ _ _ _ h => h) hB ?_
                        try generalize World.drew _ = wS at hB ⊢
                        refine seq_take (v := ?_) (a' := ?_) (some 63) rfl rfl (by rfl) ?_ ?_ ?_
                        rotate_left; rotate_left
                        · intro w' hS; go_simp; with_reducible rfl
                        · simp only [Act.put, List.setIfInBounds_toArray, List.set_cons_zero, List.set_cons_succ]; rfl
                        refine seq_take (v := ?_) (a' := ?_) (some 64) rfl rfl (by rfl) ?_ ?_ ?_
                        rotate_left; rotate_left
                        · intro w' hS; have p0 := cb hS q0; have p1 := cb hS r0; have p7 := cb hS k7; go_simp; with_reducible rfl
                        · simp only [Act.put, List.setIfInBounds_toArray, List.set_cons_zero, List.set_cons_succ]; rfl
                        refine seq_take (v := ?_) (a' := ?_) (some 65) rfl rfl (by rfl) ?_ ?_ ?_
                        rotate_left; rotate_left
                        · intro w' hS; go_simp; with_reducible rfl
                        · simp only [Act.put, List.setIfInBounds_toArray, List.set_cons_zero, List.set_cons_succ]; rfl
                        refine seq_take (v := ?_) (a' := ?_) (some 66) rfl rfl (by rfl) ?_ ?_ ?_
                        rotate_left; rotate_left
                        · intro w' hS; go_simp; with_reducible rfl
                        · simp only [Act.put, List.setIfInBounds_toArray, List.set_cons_zero, List.set_cons_succ]; rfl
                        refine seq_take (v := ?_) (a' := ?_) (some 67) rfl rfl (by rfl) ?_ ?_ ?_
                        rotate_left; rotate_left
                        · intro w' hS; go_simp; with_reducible rfl
                        · simp only [Act.put, List.setIfInBounds_toArray, List.set_cons_zero, List.set_cons_succ]; rfl
                        refine seq_take (v := ?_) (a' := ?_) (some 68) rfl rfl (by rfl) ?_ ?_ ?_
                        rotate_left; rotate_left
                        · intro w' hS; go_simp; with_reducible rfl
                        · simp only [Act.put, List.setIfInBounds_toArray, List.set_cons_zero, List.set_cons_succ]; rfl
                        refine seq_take (v := ?_) (a' := ?_) (some 69) rfl rfl (by rfl) ?_ ?_ ?_
                        rotate_left; rotate_left
                        · intro w' hS; have p0 := cb hS q0; have p1 := cb hS r0; have p7 := cb hS k7; go_simp; with_reducible rfl
                        · simp only [Act.put, List.setIfInBounds_toArray, List.set_cons_zero, List.set_cons_succ]; rfl
                        refine seq_take (v := ?_) (a' := ?_) (some 70) rfl rfl (by rfl) ?_ ?_ ?_
                        rotate_left; rotate_left
                        · intro w' hS; go_simp; with_reducible rfl
                        · simp only [Act.put, List.setIfInBounds_toArray, List.set_cons_zero, List.set_cons_succ]; rfl
                        refine seq_take (v := ?_) (a' := ?_) (some 71) rfl rfl (by rfl) ?_ ?_ ?_
                        rotate_left; rotate_left
                        · intro w' hS; have p0 := cb hS q0; have p1 := cb hS r0; have p7 := cb hS k7; go_simp; with_reducible rfl
                        · simp only [Act.put, List.setIfInBounds_toArray, List.set_cons_zero, List.set_cons_succ]; rfl
                        refine seq_take (v := ?_) (a' := ?_) (some 72) rfl rfl (by rfl) ?_ ?_ ?_
                        rotate_left; rotate_left
                        · intro w' hS; go_simp; with_reducible rfl
                        · simp only [Act.put, List.setIfInBounds_toArray, List.set_cons_zero, List.set_cons_succ]; rfl
                        refine seq_take (v := ?_) (a' := ?_) (some 73) rfl rfl (by rfl) ?_ ?_ ?_
                        rotate_left; rotate_left
                        · intro w' hS; go_simp; with_reducible rfl
                        · simp only [Act.put, List.setIfInBounds_toArray, List.set_cons_zero, List.set_cons_succ]; rfl
                        refine seq_take (v := ?_) (a' := ?_) (some 74) rfl rfl (by rfl) ?_ ?_ ?_
                        rotate_left; rotate_left
                        · intro w' hS; go_simp; with_reducible rfl
                        · simp only [Act.put, List.setIfInBounds_toArray, List.set_cons_zero, List.set_cons_succ]; rfl
                        refine seq_take (v := ?_) (a' := ?_) (some 75) rfl rfl (by rfl) ?_ ?_ ?_
                        rotate_left; rotate_left
                        · intro w' hS; have p0 := cb hS q0; have p1 := cb hS r0; have p7 := cb hS k7; go_simp; with_reducible rfl
                        · simp only [Act.put, List.setIfInBounds_toArray, List.set_cons_zero, List.set_cons_succ]; rfl
                        refine seq_call (args := ?_) Try.func81 (by kernel_rfl) rfl (some 76) rfl rfl (by rfl) rfl ?_ ?_
                        rotate_left
                        · simp only [List.map_toArray, List.map_cons, List.map_nil]; go_simp; rfl
                        with_reducible refine (beforeB_calls _ _ _ (by omega) (by omega)).mono ?_
                        rintro e w' ⟨rfl, hb⟩
                        rw [HLT.out]
                        refine ⟨_, rfl, bl_next (by repeat (first | with_reducible exact hB | refine Below.alloc ?_ (by have := hB.size; simp; omega) _ | refine bl_dN ?_ _ | refine Below.drew ?_ | refine Below.setCell ?_ (by have := hB.size; simp; omega) _)) hb, ?_⟩
                        have hB := bl_next (by repeat (first | with_reducible exact hB | refine Below.alloc ?_ (by have := hB.size; simp; omega) _ | refine bl_dN ?_ _ | refine Below.drew ?_ | refine Below.setCell ?_ (by have := hB.size; simp; omega) _)) hb; clear hb
                        simp only [Act.put, List.setIfInBounds_toArray, List.set_cons_zero, List.set_cons_succ]
                        refine seq_take (v := ?_) (a' := ?_) (some 7) rfl rfl (by rfl) ?_ ?_ ?_
                        rotate_left; rotate_left
                        · intro w' hS; go_simp; with_reducible rfl
                        · simp only [Act.put, List.setIfInBounds_toArray, List.set_cons_zero, List.set_cons_succ]; rfl
                        refine seq_done ?_
                        go_wp2_with fail
                        go_roundw
                        case rel => exact ⟨k + 1, by simp, by omega, HOK, bl_next HBV2.out hB⟩
                        case measure => simp [intOf]; omega
                      | false =>
                        have HLT := Lib.hid hlt
                        have HN := Lib.hid (NOT.out (by have := STEP.out; rw [HE.out, dif_pos (by omega), hs, hlt] at this; simpa using this))
                        clear hlt
                        have hB := hB.drew
                        refine region_seq (fun w' => Below V2.heap.size V2 w') [(0, true), (1, true), (2, true), (3, true), (4, true), (5, true), (6, true), (7, true), (8, true), (9, true), (10, true), (11, true), (12, true), (13, false), (14, true)] (by kernel_rfl) (by kernel_rfl) (fun _ _ _ _ h => h) hB ?_
                        try generalize World.drew _ = wS at hB ⊢
                        refine seq_take (v := ?_) (a' := ?_) (some 63) rfl rfl (by rfl) ?_ ?_ ?_
                        rotate_left; rotate_left
                        · intro w' hS; go_simp; with_reducible rfl
                        · simp only [Act.put, List.setIfInBounds_toArray, List.set_cons_zero, List.set_cons_succ]; rfl
                        refine seq_take (v := ?_) (a' := ?_) (some 64) rfl rfl (by rfl) ?_ ?_ ?_
                        rotate_left; rotate_left
                        · intro w' hS; have p0 := cb hS q0; have p1 := cb hS r0; have p7 := cb hS k7; go_simp; with_reducible rfl
                        · simp only [Act.put, List.setIfInBounds_toArray, List.set_cons_zero, List.set_cons_succ]; rfl
                        refine seq_take (v := ?_) (a' := ?_) (some 65) rfl rfl (by rfl) ?_ ?_ ?_
                        rotate_left; rotate_left
                        · intro w' hS; go_simp; with_reducible rfl
                        · simp only [Act.put, List.setIfInBounds_toArray, List.set_cons_zero, List.set_cons_succ]; rfl
                        refine seq_take (v := ?_) (a' := ?_) (some 66) rfl rfl (by rfl) ?_ ?_ ?_
                        rotate_left; rotate_left
                        · intro w' hS; go_simp; with_reducible rfl
                        · simp only [Act.put, List.setIfInBounds_toArray, List.set_cons_zero, List.set_cons_succ]; rfl
                        refine seq_take (v := ?_) (a' := ?_) (some 67) rfl rfl (by rfl) ?_ ?_ ?_
                        rotate_left; rotate_left
                        · intro w' hS; go_simp; with_reducible rfl
                        · simp only [Act.put, List.setIfInBounds_toArray, List.set_cons_zero, List.set_cons_succ]; rfl
                        refine seq_take (v := ?_) (a' := ?_) (some 68) rfl rfl (by rfl) ?_ ?_ ?_
                        rotate_left; rotate_left
                        · intro w' hS; go_simp; with_reducible rfl
                        · simp only [Act.put, List.setIfInBounds_toArray, List.set_cons_zero, List.set_cons_succ]; rfl
                        refine seq_take (v := ?_) (a' := ?_) (some 69) rfl rfl (by rfl) ?_ ?_ ?_
                        rotate_left; rotate_left
                        · intro w' hS; have p0 := cb hS q0; have p1 := cb hS r0; have p7 := cb hS k7; go_simp; with_reducible rfl
                        · simp only [Act.put, List.setIfInBounds_toArray, List.set_cons_zero, List.set_cons_succ]; rfl
                        refine seq_take (v := ?_) (a' := ?_) (some 70) rfl rfl (by rfl) ?_ ?_ ?_
                        rotate_left; rotate_left
                        · intro w' hS; go_simp; with_reducible rfl
                        · simp only [Act.put, List.setIfInBounds_toArray, List.set_cons_zero, List.set_cons_succ]; rfl
                        refine seq_take (v := ?_) (a' := ?_) (some 71) rfl rfl (by rfl) ?_ ?_ ?_
                        rotate_left; rotate_left
                        · intro w' hS; have p0 := cb hS q0; have p1 := cb hS r0; have p7 := cb hS k7; go_simp; with_reducible rfl
                        · simp only [Act.put, List.setIfInBounds_toArray, List.set_cons_zero, List.set_cons_succ]; rfl
                        refine seq_take (v := ?_) (a' := ?_) (some 72) rfl rfl (by rfl) ?_ ?_ ?_
                        rotate_left; rotate_left
                        · intro w' hS; go_simp; with_reducible rfl
                        · simp only [Act.put, List.setIfInBounds_toArray, List.set_cons_zero, List.set_cons_succ]; rfl
                        refine seq_take (v := ?_) (a' := ?_) (some 73) rfl rfl (by rfl) ?_ ?_ ?_
                        rotate_left; rotate_left
                        · intro w' hS; go_simp; with_reducible rfl
                        · simp only [Act.put, List.setIfInBounds_toArray, List.set_cons_zero, List.set_cons_succ]; rfl
                        refine seq_take (v := ?_) (a' := ?_) (some 74) rfl rfl (by rfl) ?_ ?_ ?_
                        rotate_left; rotate_left
                        · intro w' hS; go_simp; with_reducible rfl
                        · simp only [Act.put, List.setIfInBounds_toArray, List.set_cons_zero, List.set_cons_succ]; rfl
                        refine seq_take (v := ?_) (a' := ?_) (some 75) rfl rfl (by rfl) ?_ ?_ ?_
                        rotate_left; rotate_left
                        · intro w' hS; have p0 := cb hS q0; have p1 := cb hS r0; have p7 := cb hS k7; go_simp; with_reducible rfl
                        · simp only [Act.put, List.setIfInBounds_toArray, List.set_cons_zero, List.set_cons_succ]; rfl
                        refine seq_call (args := ?_) Try.func81 (by kernel_rfl) rfl (some 76) rfl rfl (by rfl) rfl ?_ ?_
                        rotate_left
                        · simp only [List.map_toArray, List.map_cons, List.map_nil]; go_simp; rfl
                        with_reducible refine (beforeB_calls _ _ _ (by omega) (by omega)).mono ?_
                        rintro e w' ⟨rfl, hb⟩
                        rw [HLT.out]
                        refine ⟨_, rfl, bl_next (by repeat (first | with_reducible exact hB | refine Below.alloc ?_ (by have := hB.size; simp; omega) _ | refine bl_dN ?_ _ | refine Below.drew ?_ | refine Below.setCell ?_ (by have := hB.size; simp; omega) _)) hb, ?_⟩
                        have hB := bl_next (by repeat (first | with_reducible exact hB | refine Below.alloc ?_ (by have := hB.size; simp; omega) _ | refine bl_dN ?_ _ | refine Below.drew ?_ | refine Below.setCell ?_ (by have := hB.size; simp; omega) _)) hb; clear hb
                        simp only [Act.put, List.setIfInBounds_toArray, List.set_cons_zero, List.set_cons_succ]
                        refine seq_take (v := ?_) (a' := ?_) (some 7) rfl rfl (by rfl) ?_ ?_ ?_
                        rotate_left; rotate_left
                        · intro w' hS; go_simp; with_reducible rfl
                        · simp only [Act.put, List.setIfInBounds_toArray, List.set_cons_zero, List.set_cons_succ]; rfl
                        refine seq_done ?_
                        go_wp2_with fail
                        go_ret
                        exact ⟨ret_bool HN.out.symm, bl_next HB2.out (bl_next HBV2.out hB)⟩
                · have hrf : rightB p.1 = false := by simpa using hrt
                  have HN := Lib.hid (NOT.out (by rw [STEP.out]; unfold resB; rw [hrf]; simp))
                  clear hrt
                  go_wp2_with (go_at_call 86; refine (rightR_calls _ _ (by omega)).mono ?_; rintro e w' ⟨rfl, hb⟩; rw [hrf]; have hB := bl_next hB hb; have q0 := cb hb q0; have q1 := cb hb q1; have k7 := cb hb k7; clear hb)
                  go_ret
                  exact ⟨ret_bool HN.out.symm, bl_next HB2.out (bl_next HBV.out hB)⟩
              · obtain rfl : k = l.length := by omega
                have hR := HR.out
                rw [List.take_length] at hR
                have HE := Lib.hid (show rightO ⟨⟨kk, ks, kn⟩, ver, cls, term, best, chg⟩ = true by rw [HO.out, hR, HHD.out]; rfl)
                clear hR
                go_wp2_with fail
                go_ret
                exact ⟨ret_bool HE.out.symm, bl_next HB2.out hB⟩
          · have h16I : (16 : Int) < l.length := by omega
            have h16J : decide ((16 : Int) < l.length) = true := decide_eq_true h16I
            have HN := Lib.hid (show rightO ⟨⟨kk, ks, kn⟩, ver, cls, term, best, chg⟩ = false by rw [HO.out]; rw [decide_eq_false h16]; simp)
            go_wp2_with (first | (go_at_call 62; refine (refKeyB_calls _ _ _ _ (by omega) (by omega) (by omega)).mono ?_; rintro e w' ⟨rfl, hb⟩; rw [HKO.out]; have hB := bl_next hB hb; have c0_0 := cb hb c0_0; have c0_1 := cb hb c0_1; have c0_2 := cb hb c0_2; have c0_3 := cb hb c0_3; have c0_4 := cb hb c0_4; have c0_5 := cb hb c0_5; have c0_6 := cb hb c0_6; have c0_7 := cb hb c0_7; clear hb) | (go_at_call 86; refine (rightR_calls _ _ (by omega)).mono ?_; rintro e w' ⟨rfl, hb⟩; rw [HRC.out]; have hB := bl_next hB hb; have c0_0 := cb hb c0_0; have c0_1 := cb hb c0_1; have c0_2 := cb hb c0_2; have c0_3 := cb hb c0_3; have c0_4 := cb hb c0_4; have c0_5 := cb hb c0_5; have c0_6 := cb hb c0_6; have c0_7 := cb hb c0_7; clear hb))
            go_ret
            exact ⟨ret_bool HN.out.symm, bl_from Hw.out hB⟩
        · have hv0 : ver < 1 := by omega
          have hv1 : decide (ver < 1) = true := decide_eq_true hv0
          have HN := Lib.hid (show rightO ⟨⟨kk, ks, kn⟩, ver, cls, term, best, chg⟩ = false by rw [HO.out]; rw [decide_eq_false hver]; simp)
          go_wp2_with (first | (go_at_call 62; refine (refKeyB_calls _ _ _ _ (by omega) (by omega) (by omega)).mono ?_; rintro e w' ⟨rfl, hb⟩; rw [HKO.out]; have hB := bl_next hB hb; have c0_0 := cb hb c0_0; have c0_1 := cb hb c0_1; have c0_2 := cb hb c0_2; have c0_3 := cb hb c0_3; have c0_4 := cb hb c0_4; have c0_5 := cb hb c0_5; have c0_6 := cb hb c0_6; have c0_7 := cb hb c0_7; clear hb) | (go_at_call 86; refine (rightR_calls _ _ (by omega)).mono ?_; rintro e w' ⟨rfl, hb⟩; rw [HRC.out]; have hB := bl_next hB hb; have c0_0 := cb hb c0_0; have c0_1 := cb hb c0_1; have c0_2 := cb hb c0_2; have c0_3 := cb hb c0_3; have c0_4 := cb hb c0_4; have c0_5 := cb hb c0_5; have c0_6 := cb hb c0_6; have c0_7 := cb hb c0_7; clear hb))
          go_ret
          exact ⟨ret_bool HN.out.symm, bl_from Hw.out hB⟩
end Go.Proofs.Ythhfcambdmdgfaa

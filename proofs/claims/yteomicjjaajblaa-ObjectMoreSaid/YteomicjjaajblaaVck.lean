import Derived.Test.YteomicjjaajblaaVcj
import Derived.IntWalk
namespace Go.Proofs.Yteomicjjaajblaa
open Go.RowKit Go.Shelf Go.Maps
set_option linter.unusedVariables false
set_option linter.unusedSimpArgs false
/-! ### The reference -/
theorem rightR_calls (s : ByteArray) (w : World) (hs : s.size ≤ 1073741824000) :
    Calls Try.prog 45 #[.string s] w fun e w' => e = .returned (.bool (rightB s)) ∧ Below w.heap.size w w' :=
  (refRight_calls s w hs).mono fun e w' h => ⟨h.1, by obtain ⟨n, rfl⟩ := h.2; exact bl_dN (Below.refl _ _) n⟩
theorem beforeB_calls (a b : ByteArray) (w : World) (ha : a.size ≤ 1073741824000) (hb : b.size ≤ 1073741824000) :
    Calls Try.prog 46 #[.string a, .string b] w fun e w' => e = .returned (.bool (ltB a b)) ∧ Below w.heap.size w w' :=
  (before_calls a b w ha hb).mono fun e w' h => ⟨h.1, by obtain ⟨n, rfl⟩ := h.2; exact bl_dN (Below.refl _ _) n⟩
set_option maxRecDepth 100000 in
set_option maxHeartbeats 8000000 in
theorem rvright_calls (w : World) {x : Value} {v : Vec} (h : VecS w x v) (hl : v.length ≤ 1000000) (hs : ∀ p ∈ v, p.1.size ≤ 1000000) :
    Calls Try.prog 84 #[x] w fun e w' => e = .returned (.bool (rightV v)) ∧ Below w.heap.size w w' := by
  have hB := Below.refl w.heap.size w
  have H := Lib.hid h
  have HS := Lib.hid hs
  obtain ⟨ax, cx, rfl⟩ := h.form
  clear h hs
  go_enter Try.func84, Try.ntmps84
  go_wp2_with fail
  go_loopw [3] (fun i wr => ∃ k : Nat, i = .int .i64 k ∧ k ≤ v.length ∧ Hid (rightV (v.take k) = true) ∧ Below w.heap.size w wr) (fun i _ => v.length - (intOf i).toNat)
  case atStart => exact ⟨0, rfl, Nat.zero_le _, Lib.hid rfl, hB⟩
  case round =>
    clear hB
    obtain ⟨k, rfl, hk, HR, hB⟩ := hrel
    by_cases hkl : k < v.length
    · have hkI : (k : Int) < v.length := by omega
      obtain ⟨b, o, c, he, q0, q1, q2, hin⟩ := H.out.at' hkl
      cases he
      have q0 := cb hB q0; have q1 := cb hB q1; have q2 := cb hB q2
      have hsz := HS.out _ (List.getElem_mem hkl)
      have NOT := Lib.hid (show rightV (v.take (k + 1)) = false → rightV v = false from not_right)
      have STEP : Hid (rightV (v.take (k + 1)) = (entB (v[k]'hkl) && (if h0 : 0 < k then ltB (v[k - 1]'(by omega)).1 (v[k]'hkl).1 else true))) := Lib.hid (by
        cases k with
        | zero => rw [okTo_succ0 hkl]; simp
        | succ j => rw [okTo_succ hkl, HR.out]; simp)
      have PREV : Hid (∀ h0 : 0 < k, ∃ s, (v[k - 1]'(by omega)).1 = s ∧ wr.cell? ⟨b, o + (k - 1) * 3, none⟩ = some (.string s) ∧ s.size ≤ 1000000) := Lib.hid fun h0 => by
        obtain ⟨b', o', c', he', q0', _⟩ := H.out.at' (show k - 1 < v.length by omega)
        cases he'
        exact ⟨_, rfl, cb hB q0', HS.out _ (List.getElem_mem _)⟩
      clear hin
      obtain ⟨p, hp⟩ : ∃ p, v[k]'hkl = p := ⟨_, rfl⟩
      rw [hp] at q0 q1 q2 hsz STEP
      clear hp
      obtain ⟨V, rfl⟩ : ∃ V : World, V = wr := ⟨_, rfl⟩
      have HBV := Lib.hid hB
      have hVw : w.heap.size ≤ V.heap.size := hB.size
      clear hB
      have hB := Below.refl V.heap.size V
      by_cases hrt : rightB p.1 = true
      · by_cases hz : p.2 = 0
        · have hz0 : whi p.2 = 0 ∧ wlo p.2 = 0 := wz_iff.2 hz
          have HN := Lib.hid (NOT.out (by rw [STEP.out]; unfold entB; rw [hz]; simp))
          have h1 : whi p.2 = 0 := hz0.1
          have h2 : wlo p.2 = 0 := hz0.2
          rw [h1] at q1
          rw [h2] at q2
          clear hz0 h1 h2 hz
          go_wp2_with (go_at_call 45; refine (rightR_calls _ _ (by omega)).mono ?_; rintro e w' ⟨rfl, hb⟩; rw [hrt]; have hB := bl_next hB hb; have q0 := cb hb q0; have q1 := cb hb q1; have q2 := cb hb q2; clear hb)
          go_ret
          exact ⟨ret_bool HN.out.symm, bl_next HBV.out hB⟩
        · have hz2 := mt wz_iff.1 hz
          have HE := Lib.hid (show entB p = true by unfold entB; rw [hrt]; simpa using hz)
          clear hz
          by_cases h1 : whi p.2 = 0
          · have h2 : ¬ wlo p.2 = 0 := fun e => hz2 ⟨h1, e⟩
            rw [h1] at q1
            clear hz2 h1
            by_cases h0 : k = 0
            · subst h0
              simp only [Nat.zero_mul, Nat.add_zero] at q0 q1 q2
              have HOK := Lib.hid (show rightV (v.take 1) = true by have := STEP.out; rw [HE.out] at this; simpa using this)
              go_wp2_with (go_at_call 45; refine (rightR_calls _ _ (by omega)).mono ?_; rintro e w' ⟨rfl, hb⟩; rw [hrt]; have hB := bl_next hB hb; have q0 := cb hb q0; have q1 := cb hb q1; have q2 := cb hb q2; clear hb)
              go_roundw
              case rel => exact ⟨1, rfl, by omega, HOK, bl_next HBV.out hB⟩
              case measure => simp [intOf]; omega
            · obtain ⟨s, hs, hc, hssz⟩ := PREV.out (by omega)
              have hk0 : (0 : Int) < k := by omega
              have hk1 : ((k : Int) - 1).toNat = k - 1 := by omega
              have hk2 : (0 : Int) ≤ (k : Int) - 1 := by omega
              have hk3 : (k : Int) - 1 < v.length := by omega
              have hk4 : (1 : Int) ≤ k := by omega
              have hk5 : 0 < k := by omega
              have hk6 : decide (0 < k) = true := decide_eq_true hk5
              have hk7 : IntKind.i64.wrap ((k : Int) - 1) = (k : Int) - 1 := IntWalk.i64_in _ (by omega)
              have hk8 : 1 ≤ k := hk5
              go_upto_region 8 with (go_at_call 45; refine (rightR_calls _ _ (by omega)).mono ?_; rintro e w' ⟨rfl, hb⟩; rw [hrt]; have hB := bl_next hB hb; have q0 := cb hb q0; have q1 := cb hb q1; have q2 := cb hb q2; clear hb)
              obtain ⟨V2, rfl⟩ : ∃ V2 : World, V2 = w' := ⟨_, rfl⟩
              have r0 := cb hB hc
              have HB2 := Lib.hid (bl_next HBV.out hB)
              clear hB
              have hB := Below.refl V2.heap.size V2
              cases hlt : ltB s p.1 with
              | true =>
                have HLT := Lib.hid hlt
                have HOK := Lib.hid (show rightV (v.take (k + 1)) = true by have := STEP.out; rw [HE.out, dif_pos (by omega), hs, hlt] at this; simpa using this)
                clear hlt
                have hB := hB.drew
                refine region_seq (fun w' => Below V2.heap.size V2 w') [(0, true), (1, true), (2, true), (3, true), (4, true), (5, true), (6, true), (7, true), (8, true), (9, true), (10, true), (11, false), (12, true)] (by kernel_rfl) (by kernel_rfl) (fun _ _ _ _ h => h) hB ?_
                try generalize World.drew _ = wS at hB ⊢
                refine seq_take (v := ?_) (a' := ?_) (some 40) rfl rfl (by rfl) ?_ ?_ ?_
                rotate_left; rotate_left
                · intro w' hS; go_simp; with_reducible rfl
                · simp only [Act.put, List.setIfInBounds_toArray, List.set_cons_zero, List.set_cons_succ]; rfl
                refine seq_take (v := ?_) (a' := ?_) (some 41) rfl rfl (by rfl) ?_ ?_ ?_
                rotate_left; rotate_left
                · intro w' hS; go_simp; with_reducible rfl
                · simp only [Act.put, List.setIfInBounds_toArray, List.set_cons_zero, List.set_cons_succ]; rfl
                refine seq_take (v := ?_) (a' := ?_) (some 42) rfl rfl (by rfl) ?_ ?_ ?_
                rotate_left; rotate_left
                · intro w' hS; go_simp; with_reducible rfl
                · simp only [Act.put, List.setIfInBounds_toArray, List.set_cons_zero, List.set_cons_succ]; rfl
                refine seq_take (v := ?_) (a' := ?_) (some 43) rfl rfl (by rfl) ?_ ?_ ?_
                rotate_left; rotate_left
                · intro w' hS; go_simp; with_reducible rfl
                · simp only [Act.put, List.setIfInBounds_toArray, List.set_cons_zero, List.set_cons_succ]; rfl
                refine seq_take (v := ?_) (a' := ?_) (some 44) rfl rfl (by rfl) ?_ ?_ ?_
                rotate_left; rotate_left
                · intro w' hS; go_simp; with_reducible rfl
                · simp only [Act.put, List.setIfInBounds_toArray, List.set_cons_zero, List.set_cons_succ]; rfl
                refine seq_take (v := ?_) (a' := ?_) (some 45) rfl rfl (by rfl) ?_ ?_ ?_
                rotate_left; rotate_left
                · intro w' hS; have p0 := cb hS q0; have p1 := cb hS r0; go_simp; with_reducible rfl
                · simp only [Act.put, List.setIfInBounds_toArray, List.set_cons_zero, List.set_cons_succ]; rfl
                refine seq_take (v := ?_) (a' := ?_) (some 46) rfl rfl (by rfl) ?_ ?_ ?_
                rotate_left; rotate_left
                · intro w' hS; go_simp; with_reducible rfl
                · simp only [Act.put, List.setIfInBounds_toArray, List.set_cons_zero, List.set_cons_succ]; rfl
                refine seq_take (v := ?_) (a' := ?_) (some 47) rfl rfl (by rfl) ?_ ?_ ?_
                rotate_left; rotate_left
                · intro w' hS; go_simp; with_reducible rfl
                · simp only [Act.put, List.setIfInBounds_toArray, List.set_cons_zero, List.set_cons_succ]; rfl
                refine seq_take (v := ?_) (a' := ?_) (some 48) rfl rfl (by rfl) ?_ ?_ ?_
                rotate_left; rotate_left
                · intro w' hS; go_simp; with_reducible rfl
                · simp only [Act.put, List.setIfInBounds_toArray, List.set_cons_zero, List.set_cons_succ]; rfl
                refine seq_take (v := ?_) (a' := ?_) (some 49) rfl rfl (by rfl) ?_ ?_ ?_
                rotate_left; rotate_left
                · intro w' hS; go_simp; with_reducible rfl
                · simp only [Act.put, List.setIfInBounds_toArray, List.set_cons_zero, List.set_cons_succ]; rfl
                refine seq_take (v := ?_) (a' := ?_) (some 50) rfl rfl (by rfl) ?_ ?_ ?_
                rotate_left; rotate_left
                · intro w' hS; have p0 := cb hS q0; have p1 := cb hS r0; go_simp; with_reducible rfl
                · simp only [Act.put, List.setIfInBounds_toArray, List.set_cons_zero, List.set_cons_succ]; rfl
                refine seq_call (args := ?_) Try.func46 (by kernel_rfl) rfl (some 51) rfl rfl (by rfl) rfl ?_ ?_
                rotate_left
                · simp only [List.map_toArray, List.map_cons, List.map_nil]; go_simp; rfl
                with_reducible refine (beforeB_calls _ _ _ (by omega) (by omega)).mono ?_
                rintro e w' ⟨rfl, hb⟩
                rw [HLT.out]
                refine ⟨_, rfl, bl_next (by repeat (first | with_reducible exact hB | refine Below.alloc ?_ (by have := hB.size; simp; omega) _ | refine bl_dN ?_ _ | refine Below.drew ?_ | refine Below.setCell ?_ (by have := hB.size; simp; omega) _)) hb, ?_⟩
                have hB := bl_next (by repeat (first | with_reducible exact hB | refine Below.alloc ?_ (by have := hB.size; simp; omega) _ | refine bl_dN ?_ _ | refine Below.drew ?_ | refine Below.setCell ?_ (by have := hB.size; simp; omega) _)) hb; clear hb
                simp only [Act.put, List.setIfInBounds_toArray, List.set_cons_zero, List.set_cons_succ]
                refine seq_take (v := ?_) (a' := ?_) (some 5) rfl rfl (by rfl) ?_ ?_ ?_
                rotate_left; rotate_left
                · intro w' hS; go_simp; with_reducible rfl
                · simp only [Act.put, List.setIfInBounds_toArray, List.set_cons_zero, List.set_cons_succ]; rfl
                refine seq_done ?_
                go_wp2_with fail
                go_roundw
                case rel => exact ⟨k + 1, by simp, by omega, HOK, bl_next HB2.out hB⟩
                case measure => simp [intOf]; omega
              | false =>
                have HLT := Lib.hid hlt
                have HN := Lib.hid (NOT.out (by have := STEP.out; rw [HE.out, dif_pos (by omega), hs, hlt] at this; simpa using this))
                clear hlt
                have hB := hB.drew
                refine region_seq (fun w' => Below V2.heap.size V2 w') [(0, true), (1, true), (2, true), (3, true), (4, true), (5, true), (6, true), (7, true), (8, true), (9, true), (10, true), (11, false), (12, true)] (by kernel_rfl) (by kernel_rfl) (fun _ _ _ _ h => h) hB ?_
                try generalize World.drew _ = wS at hB ⊢
                refine seq_take (v := ?_) (a' := ?_) (some 40) rfl rfl (by rfl) ?_ ?_ ?_
                rotate_left; rotate_left
                · intro w' hS; go_simp; with_reducible rfl
                · simp only [Act.put, List.setIfInBounds_toArray, List.set_cons_zero, List.set_cons_succ]; rfl
                refine seq_take (v := ?_) (a' := ?_) (some 41) rfl rfl (by rfl) ?_ ?_ ?_
                rotate_left; rotate_left
                · intro w' hS; go_simp; with_reducible rfl
                · simp only [Act.put, List.setIfInBounds_toArray, List.set_cons_zero, List.set_cons_succ]; rfl
                refine seq_take (v := ?_) (a' := ?_) (some 42) rfl rfl (by rfl) ?_ ?_ ?_
                rotate_left; rotate_left
                · intro w' hS; go_simp; with_reducible rfl
                · simp only [Act.put, List.setIfInBounds_toArray, List.set_cons_zero, List.set_cons_succ]; rfl
                refine seq_take (v := ?_) (a' := ?_) (some 43) rfl rfl (by rfl) ?_ ?_ ?_
                rotate_left; rotate_left
                · intro w' hS; go_simp; with_reducible rfl
                · simp only [Act.put, List.setIfInBounds_toArray, List.set_cons_zero, List.set_cons_succ]; rfl
                refine seq_take (v := ?_) (a' := ?_) (some 44) rfl rfl (by rfl) ?_ ?_ ?_
                rotate_left; rotate_left
                · intro w' hS; go_simp; with_reducible rfl
                · simp only [Act.put, List.setIfInBounds_toArray, List.set_cons_zero, List.set_cons_succ]; rfl
                refine seq_take (v := ?_) (a' := ?_) (some 45) rfl rfl (by rfl) ?_ ?_ ?_
                rotate_left; rotate_left
                · intro w' hS; have p0 := cb hS q0; have p1 := cb hS r0; go_simp; with_reducible rfl
                · simp only [Act.put, List.setIfInBounds_toArray, List.set_cons_zero, List.set_cons_succ]; rfl
                refine seq_take (v := ?_) (a' := ?_) (some 46) rfl rfl (by rfl) ?_ ?_ ?_
                rotate_left; rotate_left
                · intro w' hS; go_simp; with_reducible rfl
                · simp only [Act.put, List.setIfInBounds_toArray, List.set_cons_zero, List.set_cons_succ]; rfl
                refine seq_take (v := ?_) (a' := ?_) (some 47) rfl rfl (by rfl) ?_ ?_ ?_
                rotate_left; rotate_left
                · intro w' hS; go_simp; with_reducible rfl
                · simp only [Act.put, List.setIfInBounds_toArray, List.set_cons_zero, List.set_cons_succ]; rfl
                refine seq_take (v := ?_) (a' := ?_) (some 48) rfl rfl (by rfl) ?_ ?_ ?_
                rotate_left; rotate_left
                · intro w' hS; go_simp; with_reducible rfl
                · simp only [Act.put, List.setIfInBounds_toArray, List.set_cons_zero, List.set_cons_succ]; rfl
                refine seq_take (v := ?_) (a' := ?_) (some 49) rfl rfl (by rfl) ?_ ?_ ?_
                rotate_left; rotate_left
                · intro w' hS; go_simp; with_reducible rfl
                · simp only [Act.put, List.setIfInBounds_toArray, List.set_cons_zero, List.set_cons_succ]; rfl
                refine seq_take (v := ?_) (a' := ?_) (some 50) rfl rfl (by rfl) ?_ ?_ ?_
                rotate_left; rotate_left
                · intro w' hS; have p0 := cb hS q0; have p1 := cb hS r0; go_simp; with_reducible rfl
                · simp only [Act.put, List.setIfInBounds_toArray, List.set_cons_zero, List.set_cons_succ]; rfl
                refine seq_call (args := ?_) Try.func46 (by kernel_rfl) rfl (some 51) rfl rfl (by rfl) rfl ?_ ?_
                rotate_left
                · simp only [List.map_toArray, List.map_cons, List.map_nil]; go_simp; rfl
                with_reducible refine (beforeB_calls _ _ _ (by omega) (by omega)).mono ?_
                rintro e w' ⟨rfl, hb⟩
                rw [HLT.out]
                refine ⟨_, rfl, bl_next (by repeat (first | with_reducible exact hB | refine Below.alloc ?_ (by have := hB.size; simp; omega) _ | refine bl_dN ?_ _ | refine Below.drew ?_ | refine Below.setCell ?_ (by have := hB.size; simp; omega) _)) hb, ?_⟩
                have hB := bl_next (by repeat (first | with_reducible exact hB | refine Below.alloc ?_ (by have := hB.size; simp; omega) _ | refine bl_dN ?_ _ | refine Below.drew ?_ | refine Below.setCell ?_ (by have := hB.size; simp; omega) _)) hb; clear hb
                simp only [Act.put, List.setIfInBounds_toArray, List.set_cons_zero, List.set_cons_succ]
                refine seq_take (v := ?_) (a' := ?_) (some 5) rfl rfl (by rfl) ?_ ?_ ?_
                rotate_left; rotate_left
                · intro w' hS; go_simp; with_reducible rfl
                · simp only [Act.put, List.setIfInBounds_toArray, List.set_cons_zero, List.set_cons_succ]; rfl
                refine seq_done ?_
                go_wp2_with fail
                go_ret
                exact ⟨ret_bool HN.out.symm, bl_next HB2.out hB⟩
          · clear hz2
            by_cases h0 : k = 0
            · subst h0
              simp only [Nat.zero_mul, Nat.add_zero] at q0 q1 q2
              have HOK := Lib.hid (show rightV (v.take 1) = true by have := STEP.out; rw [HE.out] at this; simpa using this)
              go_wp2_with (go_at_call 45; refine (rightR_calls _ _ (by omega)).mono ?_; rintro e w' ⟨rfl, hb⟩; rw [hrt]; have hB := bl_next hB hb; have q0 := cb hb q0; have q1 := cb hb q1; have q2 := cb hb q2; clear hb)
              go_roundw
              case rel => exact ⟨1, rfl, by omega, HOK, bl_next HBV.out hB⟩
              case measure => simp [intOf]; omega
            · obtain ⟨s, hs, hc, hssz⟩ := PREV.out (by omega)
              have hk0 : (0 : Int) < k := by omega
              have hk1 : ((k : Int) - 1).toNat = k - 1 := by omega
              have hk2 : (0 : Int) ≤ (k : Int) - 1 := by omega
              have hk3 : (k : Int) - 1 < v.length := by omega
              have hk4 : (1 : Int) ≤ k := by omega
              have hk5 : 0 < k := by omega
              have hk6 : decide (0 < k) = true := decide_eq_true hk5
              have hk7 : IntKind.i64.wrap ((k : Int) - 1) = (k : Int) - 1 := IntWalk.i64_in _ (by omega)
              have hk8 : 1 ≤ k := hk5
              go_upto_region 8 with (go_at_call 45; refine (rightR_calls _ _ (by omega)).mono ?_; rintro e w' ⟨rfl, hb⟩; rw [hrt]; have hB := bl_next hB hb; have q0 := cb hb q0; have q1 := cb hb q1; have q2 := cb hb q2; clear hb)
              obtain ⟨V2, rfl⟩ : ∃ V2 : World, V2 = w' := ⟨_, rfl⟩
              have r0 := cb hB hc
              have HB2 := Lib.hid (bl_next HBV.out hB)
              clear hB
              have hB := Below.refl V2.heap.size V2
              cases hlt : ltB s p.1 with
              | true =>
                have HLT := Lib.hid hlt
                have HOK := Lib.hid (show rightV (v.take (k + 1)) = true by have := STEP.out; rw [HE.out, dif_pos (by omega), hs, hlt] at this; simpa using this)
                clear hlt
                have hB := hB.drew
                refine region_seq (fun w' => Below V2.heap.size V2 w') [(0, true), (1, true), (2, true), (3, true), (4, true), (5, true), (6, true), (7, true), (8, true), (9, true), (10, true), (11, false), (12, true)] (by kernel_rfl) (by kernel_rfl) (fun _ _ _ _ h => h) hB ?_
                try generalize World.drew _ = wS at hB ⊢
                refine seq_take (v := ?_) (a' := ?_) (some 40) rfl rfl (by rfl) ?_ ?_ ?_
                rotate_left; rotate_left
                · intro w' hS; go_simp; with_reducible rfl
                · simp only [Act.put, List.setIfInBounds_toArray, List.set_cons_zero, List.set_cons_succ]; rfl
                refine seq_take (v := ?_) (a' := ?_) (some 41) rfl rfl (by rfl) ?_ ?_ ?_
                rotate_left; rotate_left
                · intro w' hS; go_simp; with_reducible rfl
                · simp only [Act.put, List.setIfInBounds_toArray, List.set_cons_zero, List.set_cons_succ]; rfl
                refine seq_take (v := ?_) (a' := ?_) (some 42) rfl rfl (by rfl) ?_ ?_ ?_
                rotate_left; rotate_left
                · intro w' hS; go_simp; with_reducible rfl
                · simp only [Act.put, List.setIfInBounds_toArray, List.set_cons_zero, List.set_cons_succ]; rfl
                refine seq_take (v := ?_) (a' := ?_) (some 43) rfl rfl (by rfl) ?_ ?_ ?_
                rotate_left; rotate_left
                · intro w' hS; go_simp; with_reducible rfl
                · simp only [Act.put, List.setIfInBounds_toArray, List.set_cons_zero, List.set_cons_succ]; rfl
                refine seq_take (v := ?_) (a' := ?_) (some 44) rfl rfl (by rfl) ?_ ?_ ?_
                rotate_left; rotate_left
                · intro w' hS; go_simp; with_reducible rfl
                · simp only [Act.put, List.setIfInBounds_toArray, List.set_cons_zero, List.set_cons_succ]; rfl
                refine seq_take (v := ?_) (a' := ?_) (some 45) rfl rfl (by rfl) ?_ ?_ ?_
                rotate_left; rotate_left
                · intro w' hS; have p0 := cb hS q0; have p1 := cb hS r0; go_simp; with_reducible rfl
                · simp only [Act.put, List.setIfInBounds_toArray, List.set_cons_zero, List.set_cons_succ]; rfl
                refine seq_take (v := ?_) (a' := ?_) (some 46) rfl rfl (by rfl) ?_ ?_ ?_
                rotate_left; rotate_left
                · intro w' hS; go_simp; with_reducible rfl
                · simp only [Act.put, List.setIfInBounds_toArray, List.set_cons_zero, List.set_cons_succ]; rfl
                refine seq_take (v := ?_) (a' := ?_) (some 47) rfl rfl (by rfl) ?_ ?_ ?_
                rotate_left; rotate_left
                · intro w' hS; go_simp; with_reducible rfl
                · simp only [Act.put, List.setIfInBounds_toArray, List.set_cons_zero, List.set_cons_succ]; rfl
                refine seq_take (v := ?_) (a' := ?_) (some 48) rfl rfl (by rfl) ?_ ?_ ?_
                rotate_left; rotate_left
                · intro w' hS; go_simp; with_reducible rfl
                · simp only [Act.put, List.setIfInBounds_toArray, List.set_cons_zero, List.set_cons_succ]; rfl
                refine seq_take (v := ?_) (a' := ?_) (some 49) rfl rfl (by rfl) ?_ ?_ ?_
                rotate_left; rotate_left
                · intro w' hS; go_simp; with_reducible rfl
                · simp only [Act.put, List.setIfInBounds_toArray, List.set_cons_zero, List.set_cons_succ]; rfl
                refine seq_take (v := ?_) (a' := ?_) (some 50) rfl rfl (by rfl) ?_ ?_ ?_
                rotate_left; rotate_left
                · intro w' hS; have p0 := cb hS q0; have p1 := cb hS r0; go_simp; with_reducible rfl
                · simp only [Act.put, List.setIfInBounds_toArray, List.set_cons_zero, List.set_cons_succ]; rfl
                refine seq_call (args := ?_) Try.func46 (by kernel_rfl) rfl (some 51) rfl rfl (by rfl) rfl ?_ ?_
                rotate_left
                · simp only [List.map_toArray, List.map_cons, List.map_nil]; go_simp; rfl
                with_reducible refine (beforeB_calls _ _ _ (by omega) (by omega)).mono ?_
                rintro e w' ⟨rfl, hb⟩
                rw [HLT.out]
                refine ⟨_, rfl, bl_next (by repeat (first | with_reducible exact hB | refine Below.alloc ?_ (by have := hB.size; simp; omega) _ | refine bl_dN ?_ _ | refine Below.drew ?_ | refine Below.setCell ?_ (by have := hB.size; simp; omega) _)) hb, ?_⟩
                have hB := bl_next (by repeat (first | with_reducible exact hB | refine Below.alloc ?_ (by have := hB.size; simp; omega) _ | refine bl_dN ?_ _ | refine Below.drew ?_ | refine Below.setCell ?_ (by have := hB.size; simp; omega) _)) hb; clear hb
                simp only [Act.put, List.setIfInBounds_toArray, List.set_cons_zero, List.set_cons_succ]
                refine seq_take (v := ?_) (a' := ?_) (some 5) rfl rfl (by rfl) ?_ ?_ ?_
                rotate_left; rotate_left
                · intro w' hS; go_simp; with_reducible rfl
                · simp only [Act.put, List.setIfInBounds_toArray, List.set_cons_zero, List.set_cons_succ]; rfl
                refine seq_done ?_
                go_wp2_with fail
                go_roundw
                case rel => exact ⟨k + 1, by simp, by omega, HOK, bl_next HB2.out hB⟩
                case measure => simp [intOf]; omega
              | false =>
                have HLT := Lib.hid hlt
                have HN := Lib.hid (NOT.out (by have := STEP.out; rw [HE.out, dif_pos (by omega), hs, hlt] at this; simpa using this))
                clear hlt
                have hB := hB.drew
                refine region_seq (fun w' => Below V2.heap.size V2 w') [(0, true), (1, true), (2, true), (3, true), (4, true), (5, true), (6, true), (7, true), (8, true), (9, true), (10, true), (11, false), (12, true)] (by kernel_rfl) (by kernel_rfl) (fun _ _ _ _ h => h) hB ?_
                try generalize World.drew _ = wS at hB ⊢
                refine seq_take (v := ?_) (a' := ?_) (some 40) rfl rfl (by rfl) ?_ ?_ ?_
                rotate_left; rotate_left
                · intro w' hS; go_simp; with_reducible rfl
                · simp only [Act.put, List.setIfInBounds_toArray, List.set_cons_zero, List.set_cons_succ]; rfl
                refine seq_take (v := ?_) (a' := ?_) (some 41) rfl rfl (by rfl) ?_ ?_ ?_
                rotate_left; rotate_left
                · intro w' hS; go_simp; with_reducible rfl
                · simp only [Act.put, List.setIfInBounds_toArray, List.set_cons_zero, List.set_cons_succ]; rfl
                refine seq_take (v := ?_) (a' := ?_) (some 42) rfl rfl (by rfl) ?_ ?_ ?_
                rotate_left; rotate_left
                · intro w' hS; go_simp; with_reducible rfl
                · simp only [Act.put, List.setIfInBounds_toArray, List.set_cons_zero, List.set_cons_succ]; rfl
                refine seq_take (v := ?_) (a' := ?_) (some 43) rfl rfl (by rfl) ?_ ?_ ?_
                rotate_left; rotate_left
                · intro w' hS; go_simp; with_reducible rfl
                · simp only [Act.put, List.setIfInBounds_toArray, List.set_cons_zero, List.set_cons_succ]; rfl
                refine seq_take (v := ?_) (a' := ?_) (some 44) rfl rfl (by rfl) ?_ ?_ ?_
                rotate_left; rotate_left
                · intro w' hS; go_simp; with_reducible rfl
                · simp only [Act.put, List.setIfInBounds_toArray, List.set_cons_zero, List.set_cons_succ]; rfl
                refine seq_take (v := ?_) (a' := ?_) (some 45) rfl rfl (by rfl) ?_ ?_ ?_
                rotate_left; rotate_left
                · intro w' hS; have p0 := cb hS q0; have p1 := cb hS r0; go_simp; with_reducible rfl
                · simp only [Act.put, List.setIfInBounds_toArray, List.set_cons_zero, List.set_cons_succ]; rfl
                refine seq_take (v := ?_) (a' := ?_) (some 46) rfl rfl (by rfl) ?_ ?_ ?_
                rotate_left; rotate_left
                · intro w' hS; go_simp; with_reducible rfl
                · simp only [Act.put, List.setIfInBounds_toArray, List.set_cons_zero, List.set_cons_succ]; rfl
                refine seq_take (v := ?_) (a' := ?_) (some 47) rfl rfl (by rfl) ?_ ?_ ?_
                rotate_left; rotate_left
                · intro w' hS; go_simp; with_reducible rfl
                · simp only [Act.put, List.setIfInBounds_toArray, List.set_cons_zero, List.set_cons_succ]; rfl
                refine seq_take (v := ?_) (a' := ?_) (some 48) rfl rfl (by rfl) ?_ ?_ ?_
                rotate_left; rotate_left
                · intro w' hS; go_simp; with_reducible rfl
                · simp only [Act.put, List.setIfInBounds_toArray, List.set_cons_zero, List.set_cons_succ]; rfl
                refine seq_take (v := ?_) (a' := ?_) (some 49) rfl rfl (by rfl) ?_ ?_ ?_
                rotate_left; rotate_left
                · intro w' hS; go_simp; with_reducible rfl
                · simp only [Act.put, List.setIfInBounds_toArray, List.set_cons_zero, List.set_cons_succ]; rfl
                refine seq_take (v := ?_) (a' := ?_) (some 50) rfl rfl (by rfl) ?_ ?_ ?_
                rotate_left; rotate_left
                · intro w' hS; have p0 := cb hS q0; have p1 := cb hS r0; go_simp; with_reducible rfl
                · simp only [Act.put, List.setIfInBounds_toArray, List.set_cons_zero, List.set_cons_succ]; rfl
                refine seq_call (args := ?_) Try.func46 (by kernel_rfl) rfl (some 51) rfl rfl (by rfl) rfl ?_ ?_
                rotate_left
                · simp only [List.map_toArray, List.map_cons, List.map_nil]; go_simp; rfl
                with_reducible refine (beforeB_calls _ _ _ (by omega) (by omega)).mono ?_
                rintro e w' ⟨rfl, hb⟩
                rw [HLT.out]
                refine ⟨_, rfl, bl_next (by repeat (first | with_reducible exact hB | refine Below.alloc ?_ (by have := hB.size; simp; omega) _ | refine bl_dN ?_ _ | refine Below.drew ?_ | refine Below.setCell ?_ (by have := hB.size; simp; omega) _)) hb, ?_⟩
                have hB := bl_next (by repeat (first | with_reducible exact hB | refine Below.alloc ?_ (by have := hB.size; simp; omega) _ | refine bl_dN ?_ _ | refine Below.drew ?_ | refine Below.setCell ?_ (by have := hB.size; simp; omega) _)) hb; clear hb
                simp only [Act.put, List.setIfInBounds_toArray, List.set_cons_zero, List.set_cons_succ]
                refine seq_take (v := ?_) (a' := ?_) (some 5) rfl rfl (by rfl) ?_ ?_ ?_
                rotate_left; rotate_left
                · intro w' hS; go_simp; with_reducible rfl
                · simp only [Act.put, List.setIfInBounds_toArray, List.set_cons_zero, List.set_cons_succ]; rfl
                refine seq_done ?_
                go_wp2_with fail
                go_ret
                exact ⟨ret_bool HN.out.symm, bl_next HB2.out hB⟩
      · have hrf : rightB p.1 = false := by simpa using hrt
        have HN := Lib.hid (NOT.out (by rw [STEP.out]; unfold entB; rw [hrf]; simp))
        clear hrt
        go_wp2_with (go_at_call 45; refine (rightR_calls _ _ (by omega)).mono ?_; rintro e w' ⟨rfl, hb⟩; rw [hrf]; have hB := bl_next hB hb; have q0 := cb hb q0; have q1 := cb hb q1; have q2 := cb hb q2; clear hb)
        go_ret
        exact ⟨ret_bool HN.out.symm, bl_next HBV.out hB⟩
    · obtain rfl : k = v.length := by omega
      have HOK := Lib.hid (show rightV v = true by have := HR.out; rwa [List.take_length] at this)
      go_wp2_with fail
      go_ret
      exact ⟨ret_bool HOK.out.symm, hB⟩
set_option maxRecDepth 100000 in
set_option maxHeartbeats 4000000 in
theorem rvget_calls (w : World) {x : Value} {v : Vec} (h : VecS w x v) (s : ByteArray) (hl : v.length ≤ 1000000) :
    Calls Try.prog 65 #[x, .string s] w fun e w' => e = .returned (wideV (getV v s)) ∧ Below w.heap.size w w' := by
  have hB := Below.refl w.heap.size w
  have H := Lib.hid h
  obtain ⟨ax, cx, rfl⟩ := h.form
  clear h
  go_enter Try.func65, Try.ntmps65
  go_upto_region 1 with fail
  first | with_reducible refine name_wp ?_ | with_reducible refine name_calls ?_
  intro W hWeq
  have g0 : W.heap[w.heap.size]? = some (.cells #[.int .i64 0, .int .u64 0] 40) := by rw [hWeq]; repeat (first | (with_reducible exact blk_newAt _ _ (by simp)) | with_reducible refine blk_drew ?_ | with_reducible refine blk_dN ?_ _ | with_reducible refine blk_old ?_ _)
  have hw : Below w.heap.size w W := by rw [hWeq]; repeat (first | with_reducible exact Below.refl _ _ | with_reducible refine Below.drew ?_ | with_reducible refine bl_dN ?_ _ | with_reducible refine Below.alloc ?_ (by simp <;> omega) _)
  clear hWeq
  have hz : w.heap.size + 1 ≤ W.heap.size := by have := blk_lt g0; omega
  have c0_0 : W.cell? ⟨w.heap.size, 0, none⟩ = some (.int .i64 0) := blk_cell g0 0
  have c0_1 : W.cell? ⟨w.heap.size, 1, none⟩ = some (.int .u64 0) := blk_cell g0 1
  have f0 : ∀ j, W.frozen? ⟨w.heap.size, j, none⟩ = false := blk_free g0
  have hB : Below W.heap.size W W := Below.refl _ _
  have G0 := Lib.hid g0; clear g0
  have F0 := Lib.hid f0; clear f0
  have Hw := Lib.hid hw; clear hw
  have HW := Lib.hid (H.out.below Hw.out)
  go_wp2_with fail
  go_loopw [5] (fun i wr => ∃ k : Nat, i = .int .i64 k ∧ k ≤ v.length ∧ Hid (∀ j (hj : j < v.length), j < k → (v[j]'hj).1 ≠ s) ∧ Below W.heap.size W wr) (fun i _ => v.length - (intOf i).toNat)
  case atStart => exact ⟨0, rfl, Nat.zero_le _, Lib.hid fun j hj h => absurd h (Nat.not_lt_zero _), hB⟩
  case round =>
    clear hB
    obtain ⟨k, rfl, hk, HN, hB⟩ := hrel
    have k0 := cb hB c0_0
    have k1 := cb hB c0_1
    have f0 := fb hB (lt_of_cell c0_0) (F0.out 0)
    have f1 := fb hB (lt_of_cell c0_1) (F0.out 1)
    by_cases hkl : k < v.length
    · have hkI : (k : Int) < v.length := by omega
      obtain ⟨b, o, c, he, q0, q1, q2, hin⟩ := HW.out.at' hkl
      cases he
      have q0 := cb hB q0; have q1 := cb hB q1; have q2 := cb hB q2
      have FIN := Lib.hid (show (v[k]'hkl).1 = s → getV v s = (v[k]'hkl).2 from fun e => by
        unfold getV getA
        have : v.find? (fun p => decide (p.1 = s)) = some (v[k]'hkl) := by
          rw [List.find?_eq_some_iff_getElem]
          exact ⟨by simpa using e, k, hkl, rfl, fun j hj => by simpa using HN.out j (by omega) hj⟩
        rw [this]; rfl)
      have STEP := Lib.hid (show (v[k]'hkl).1 ≠ s → ∀ j (hj : j < v.length), j < k + 1 → (v[j]'hj).1 ≠ s from fun hne j hj hjk => by
        rcases Nat.lt_or_ge j k with q | q
        · exact HN.out j hj q
        · obtain rfl : j = k := by omega
          exact hne)
      clear hin
      generalize v[k]'hkl = p at q0 q1 q2 FIN STEP
      obtain ⟨V, rfl⟩ : ∃ V : World, V = wr := ⟨_, rfl⟩
      have HBV := Lib.hid hB
      have hVw : W.heap.size ≤ V.heap.size := hB.size
      clear hB
      by_cases hps : p.1 = s
      · have hbf : (p.1.toList == s.toList) = true := by rw [hps]; simp
        have HPS := Lib.hid hps
        clear hps
        have HE := Lib.hid (FIN.out HPS.out)
        go_wp2_with fail
        refine name_body ?_
        intro U hU
        have hb9 := bl_from Hw.out HBV.out
        have hbU : Below w.heap.size w U := by rw [hU]; exact (hb9.setCell (Nat.le_refl _) _).setCell (Nat.le_refl _) _
        have r0 : U.cell? ⟨w.heap.size, 0, none⟩ = some (.int .i64 (whi p.2)) := by rw [hU]; go_simp
        have r1 : U.cell? ⟨w.heap.size, 1, none⟩ = some (.int .u64 (wlo p.2)) := by rw [hU]; go_simp
        clear hU
        refine bodyPost_ret (v := .agg #[.int .i64 (whi p.2), .int .u64 (wlo p.2)]) (by simp [results, Try.results65, go_sem, r0, r1]) rfl ⟨by rw [HE.out]; rfl, hbU⟩
      · have hbf : (p.1.toList == s.toList) = false := beqF hps
        have hbn := neF hps
        have HPS := Lib.hid hps
        clear hps
        go_wp2_with fail
        go_roundw
        case rel => exact ⟨k + 1, by simp, by omega, Lib.hid (STEP.out HPS.out), HBV.out⟩
        case measure => simp [intOf]; omega
    · obtain rfl : k = v.length := by omega
      have HE := Lib.hid (show getV v s = 0 from getV_none fun q hq => by
        obtain ⟨j, hj, rfl⟩ := List.getElem_of_mem hq
        exact HN.out j hj hj)
      go_wp2_with fail
      refine name_body ?_
      intro U hU
      have hb9 := bl_from Hw.out hB
      have hbU : Below w.heap.size w U := by rw [hU]; exact (hb9.setCell (Nat.le_refl _) _).setCell (Nat.le_refl _) _
      have r0 : U.cell? ⟨w.heap.size, 0, none⟩ = some (.int .i64 0) := by rw [hU]; go_simp
      have r1 : U.cell? ⟨w.heap.size, 1, none⟩ = some (.int .u64 0) := by rw [hU]; go_simp
      clear hU
      refine bodyPost_ret (v := .agg #[.int .i64 0, .int .u64 0]) (by simp [results, Try.results65, go_sem, r0, r1]) rfl ⟨by rw [HE.out]; rfl, hbU⟩
end Go.Proofs.Yteomicjjaajblaa

import Derived.Test.YteomicjjaajblaaVcd
import Derived.IntWalk
namespace Go.Proofs.Yteomicjjaajblaa
open Go.RowKit
set_option linter.unusedVariables false
set_option linter.unusedSimpArgs false
/-! ### Right -/
/-- Right so far. -/
def okTo (v : Vec) (k : Nat) : Prop := rightV (v.take k) = true
theorem keysA_take (v : Vec) (k : Nat) : keysA (v.take k) = (keysA v).take k := by unfold keysA; rw [List.map_take]
theorem keysA_len (v : Vec) : (keysA v).length = v.length := by simp [keysA]
theorem ris_take (v : Vec) {k : Nat} (h : k + 1 < v.length) : risB (keysA (v.take (k + 2))) = (risB (keysA (v.take (k + 1))) && ltB (v[k]'(by omega)).1 (v[k + 1]'h).1) := by
  have e1 : v.take (k + 1) = v.take k ++ [v[k]'(by omega)] := List.take_succ_eq_append_getElem (by omega)
  have e2 : v.take (k + 2) = v.take k ++ [v[k]'(by omega)] ++ [v[k + 1]'h] := by rw [← e1]; exact List.take_succ_eq_append_getElem h
  rw [e1, e2]
  have := risB_snoc (keysA (v.take k)) (v[k]'(by omega)).1 (v[k + 1]'h).1
  simp only [keysA, List.map_append, List.map_cons, List.map_nil] at this ⊢
  exact this
theorem okTo_succ0 {v : Vec} (h : 0 < v.length) : rightV (v.take 1) = entB (v[0]'h) := by
  cases v with
  | nil => cases h
  | cons p r => simp [rightV, risB, keysA]
theorem okTo_succ {v : Vec} {k : Nat} (h : k + 1 < v.length) : rightV (v.take (k + 2)) = (rightV (v.take (k + 1)) && (entB (v[k + 1]'h) && ltB (v[k]'(by omega)).1 (v[k + 1]'h).1)) := by
  unfold rightV
  rw [ris_take v h]
  have e : v.take (k + 2) = v.take (k + 1) ++ [v[k + 1]'h] := List.take_succ_eq_append_getElem h
  rw [e, List.all_append]
  simp only [List.all_cons, List.all_nil, Bool.and_true]
  cases (v.take (k + 1)).all entB <;> cases entB (v[k + 1]'h) <;> cases risB (keysA (v.take (k + 1))) <;> cases ltB (v[k]'(by omega)).1 (v[k + 1]'h).1 <;> rfl
/-- What is not right so far is not right. -/
theorem not_right {v : Vec} {k : Nat} (h : rightV (v.take k) = false) : rightV v = false := by
  cases q : rightV v with
  | false => rfl
  | true =>
    obtain ⟨h1, h2⟩ := rightV_spec q
    rw [rightV_of (List.Pairwise.sublist (List.take_sublist k v) h1) (fun p hp => h2 p (List.mem_of_mem_take hp))] at h
    cases h
theorem beqS (a b : ByteArray) : (a.toList == b.toList) = decide (a = b) := by
  rw [Bool.eq_iff_iff, beq_iff_eq, decide_eq_true_eq]
  exact ⟨fun h => ByteArray.ext (Array.toList_inj.1 (by rw [← Lib.toList_data, ← Lib.toList_data]; exact h)), fun h => by rw [h]⟩
theorem wideIf (h l h' l' : Int) (w : World) {q : Bool} (hq : (decide (h = h') && decide (l = l')) = q) : (if h = h' then if l = l' then Result.ok (Next.value (Value.bool true)) w else Result.ok (Next.value (Value.bool false)) w else Result.ok (Next.value (Value.bool false)) w)
    = .ok (.value (.bool q)) w := by
  rw [← hq]
  by_cases h1 : h = h' <;> by_cases h2 : l = l' <;> simp [h1, h2]
set_option maxRecDepth 100000 in
set_option maxHeartbeats 8000000 in
theorem vright_calls (w : World) {x : Value} {v : Vec} (h : VecS w x v) (hl : v.length ≤ 1000000) (hs : ∀ p ∈ v, p.1.size ≤ 1000000) :
    Calls Try.prog 19 #[x] w fun e w' => e = .returned (.bool (rightV v)) ∧ Below w.heap.size w w' := by
  have hB := Below.refl w.heap.size w
  have H := Lib.hid h
  have HS := Lib.hid hs
  obtain ⟨ax, cx, rfl⟩ := h.form
  clear h hs
  go_enter Try.func19, Try.ntmps19
  go_wp2_with fail
  go_loopw [7] (fun i wr => ∃ k : Nat, i = .int .i64 k ∧ k ≤ v.length ∧ Hid (rightV (v.take k) = true) ∧ Below w.heap.size w wr) (fun i _ => v.length - (intOf i).toNat)
  case atStart => exact ⟨0, rfl, Nat.zero_le _, Lib.hid rfl, hB⟩
  case round =>
    clear hB
    obtain ⟨k, rfl, hk, HR, hB⟩ := hrel
    by_cases hkl : k < v.length
    · have hkI : (k : Int) < v.length := by omega
      obtain ⟨b, o, c, he, q0, q1, q2, hin⟩ := H.out.at' hkl
      cases he
      have q0 := cb hB q0; have q1 := cb hB q1; have q2 := cb hB q2
      have hsz := HS.out _ (List.getElem_mem hkl)
      have NOT := Lib.hid (show rightV (v.take (k + 1)) = false → rightV v = false from not_right)
      have STEP : Hid (rightV (v.take (k + 1)) = (entB (v[k]'hkl) && (if h0 : 0 < k then ltB (v[k - 1]'(by omega)).1 (v[k]'hkl).1 else true))) := Lib.hid (by
        cases k with
        | zero => rw [okTo_succ0 hkl]; simp
        | succ j => rw [okTo_succ hkl, HR.out]; simp)
      have PREV : Hid (∀ h0 : 0 < k, ∃ s, (v[k - 1]'(by omega)).1 = s ∧ wr.cell? ⟨b, o + (k - 1) * 3, none⟩ = some (.string s)) := Lib.hid fun h0 => by
        obtain ⟨b', o', c', he', q0', _⟩ := H.out.at' (show k - 1 < v.length by omega)
        cases he'
        exact ⟨_, rfl, cb hB q0'⟩
      clear hin
      obtain ⟨p, hp⟩ : ∃ p, v[k]'hkl = p := ⟨_, rfl⟩
      rw [hp] at q0 q1 q2 hsz STEP
      clear hp
      obtain ⟨V, rfl⟩ : ∃ V : World, V = wr := ⟨_, rfl⟩
      have HBV := Lib.hid hB
      have hVw : w.heap.size ≤ V.heap.size := hB.size
      clear hB
      go_upto_region 4 with fail
      first | with_reducible refine name_wp ?_ | with_reducible refine name_calls ?_
      intro W hWeq
      have g0 : W.heap[V.heap.size]? = some (.cells #[.string p.1, .int .i64 (whi p.2), .int .u64 (wlo p.2)] 64) := by rw [hWeq]; repeat (first | (with_reducible exact blk_newAt _ _ (by simp)) | with_reducible refine blk_drew ?_ | with_reducible refine blk_dN ?_ _ | with_reducible refine blk_old ?_ _)
      have hw : Below V.heap.size V W := by rw [hWeq]; repeat (first | with_reducible exact Below.refl _ _ | with_reducible refine Below.drew ?_ | with_reducible refine bl_dN ?_ _ | with_reducible refine Below.alloc ?_ (by simp <;> omega) _)
      clear hWeq
      have hz : V.heap.size + 1 ≤ W.heap.size := by have := blk_lt g0; omega
      have c0_0 : W.cell? ⟨V.heap.size, 0, none⟩ = some (.string p.1) := blk_cell g0 0
      have c0_1 : W.cell? ⟨V.heap.size, 1, none⟩ = some (.int .i64 (whi p.2)) := blk_cell g0 1
      have c0_2 : W.cell? ⟨V.heap.size, 2, none⟩ = some (.int .u64 (wlo p.2)) := blk_cell g0 2
      have f0 : ∀ j, W.frozen? ⟨V.heap.size, j, none⟩ = false := blk_free g0
      have hB : Below W.heap.size W W := Below.refl _ _
      have G0 := Lib.hid g0; clear g0
      have F0 := Lib.hid f0; clear f0
      have Hw := Lib.hid hw; clear hw
      have HBW := Lib.hid (HBV.out.trans (Hw.out.mono hVw))
      have Q0 := Lib.hid (cb Hw.out q0)
      clear q0 q1 q2
      by_cases hrt : rightB p.1 = true
      · by_cases hz : p.2 = 0
        · have hz0 : whi p.2 = 0 ∧ wlo p.2 = 0 := wz_iff.2 hz
          have HN := Lib.hid (NOT.out (by rw [STEP.out]; unfold entB; rw [hz]; simp))
          have h1 : whi p.2 = 0 := hz0.1
          have h2 : wlo p.2 = 0 := hz0.2
          rw [h1] at c0_1
          rw [h2] at c0_2
          clear hz0 h1 h2 hz
          have hB := hB.drew
          refine region_seq (fun w' => Below W.heap.size W w') [(0, true), (1, true), (2, false), (3, true), (4, true), (5, true), (6, true), (7, true), (8, true), (9, true), (10, true), (11, true), (12, true), (13, true), (14, true), (15, true), (16, true), (17, true), (18, true), (19, true), (20, true), (21, true), (22, true), (23, true), (24, true)] (by kernel_rfl) (by kernel_rfl) (fun _ _ _ _ h => h) hB ?_
          try generalize World.drew _ = wS at hB ⊢
          refine seq_take (v := ?_) (a' := ?_) (some 12) rfl rfl (by rfl) ?_ ?_ ?_
          rotate_left; rotate_left
          · intro w' hS; go_simp; with_reducible rfl
          · simp only [Act.put, List.setIfInBounds_toArray, List.set_cons_zero, List.set_cons_succ]; rfl
          refine seq_take (v := ?_) (a' := ?_) (some 13) rfl rfl (by rfl) ?_ ?_ ?_
          rotate_left; rotate_left
          · intro w' hS; have p0 := cb hS c0_0; have p1 := cb hS c0_1; have p2 := cb hS c0_2; go_simp; with_reducible rfl
          · simp only [Act.put, List.setIfInBounds_toArray, List.set_cons_zero, List.set_cons_succ]; rfl
          refine seq_call (args := ?_) Try.func42 (by kernel_rfl) rfl (some 14) rfl rfl (by rfl) rfl ?_ ?_
          rotate_left
          · simp only [List.map_toArray, List.map_cons, List.map_nil]; go_simp; rfl
          with_reducible refine (right_calls _ _ (by omega)).mono ?_
          rintro e w' ⟨rfl, hb⟩
          rw [hrt]
          refine ⟨_, rfl, bl_next (by repeat (first | with_reducible exact hB | refine Below.alloc ?_ (by have := hB.size; simp; omega) _ | refine bl_dN ?_ _ | refine Below.drew ?_ | refine Below.setCell ?_ (by have := hB.size; simp; omega) _)) hb, ?_⟩
          have hB := bl_next (by repeat (first | with_reducible exact hB | refine Below.alloc ?_ (by have := hB.size; simp; omega) _ | refine bl_dN ?_ _ | refine Below.drew ?_ | refine Below.setCell ?_ (by have := hB.size; simp; omega) _)) hb; clear hb
          simp only [Act.put, List.setIfInBounds_toArray, List.set_cons_zero, List.set_cons_succ]
          refine seq_take (v := ?_) (a' := ?_) (some 15) rfl rfl (by rfl) ?_ ?_ ?_
          rotate_left; rotate_left
          · intro w' hS; go_simp; with_reducible rfl
          · simp only [Act.put, List.setIfInBounds_toArray, List.set_cons_zero, List.set_cons_succ]; rfl
          refine seq_take (v := ?_) (a' := ?_) (some 16) rfl rfl (by rfl) ?_ ?_ ?_
          rotate_left; rotate_left
          · intro w' hS; go_simp; with_reducible rfl
          · simp only [Act.put, List.setIfInBounds_toArray, List.set_cons_zero, List.set_cons_succ]; rfl
          refine seq_take (v := ?_) (a' := ?_) (some 17) rfl rfl (by rfl) ?_ ?_ ?_
          rotate_left; rotate_left
          · intro w' hS; go_simp; with_reducible rfl
          · simp only [Act.put, List.setIfInBounds_toArray, List.set_cons_zero, List.set_cons_succ]; rfl
          refine seq_take (v := ?_) (a' := ?_) (some 18) rfl rfl (by rfl) ?_ ?_ ?_
          rotate_left; rotate_left
          · intro w' hS; have p0 := cb hS c0_0; have p1 := cb hS c0_1; have p2 := cb hS c0_2; go_simp; with_reducible rfl
          · simp only [Act.put, List.setIfInBounds_toArray, List.set_cons_zero, List.set_cons_succ]; rfl
          refine seq_take (v := ?_) (a' := ?_) (some 19) rfl rfl (by rfl) ?_ ?_ ?_
          rotate_left; rotate_left
          · intro w' hS; go_simp; with_reducible rfl
          · simp only [Act.put, List.setIfInBounds_toArray, List.set_cons_zero, List.set_cons_succ]; rfl
          refine seq_take (v := ?_) (a' := ?_) (some 20) rfl rfl (by rfl) ?_ ?_ ?_
          rotate_left; rotate_left
          · intro w' hS; go_simp; with_reducible rfl
          · simp only [Act.put, List.setIfInBounds_toArray, List.set_cons_zero, List.set_cons_succ]; rfl
          refine seq_take (v := ?_) (a' := ?_) (some 21) rfl rfl (by rfl) ?_ ?_ ?_
          rotate_left; rotate_left
          · intro w' hS; go_simp; with_reducible rfl
          · simp only [Act.put, List.setIfInBounds_toArray, List.set_cons_zero, List.set_cons_succ]; rfl
          refine seq_take (v := ?_) (a' := ?_) (some 22) rfl rfl (by rfl) ?_ ?_ ?_
          rotate_left; rotate_left
          · intro w' hS; go_simp; with_reducible rfl
          · simp only [Act.put, List.setIfInBounds_toArray, List.set_cons_zero, List.set_cons_succ]; rfl
          refine seq_skip (a' := ?_) (some 23) rfl rfl (by rfl) ?_ ?_
          rotate_left
          · simp only [Act.put, List.setIfInBounds_toArray, List.set_cons_zero, List.set_cons_succ]; rfl
          refine seq_skip (a' := ?_) (some 24) rfl rfl (by rfl) ?_ ?_
          rotate_left
          · simp only [Act.put, List.setIfInBounds_toArray, List.set_cons_zero, List.set_cons_succ]; rfl
          refine seq_skip (a' := ?_) (some 25) rfl rfl (by rfl) ?_ ?_
          rotate_left
          · simp only [Act.put, List.setIfInBounds_toArray, List.set_cons_zero, List.set_cons_succ]; rfl
          refine seq_skip (a' := ?_) (some 26) rfl rfl (by rfl) ?_ ?_
          rotate_left
          · simp only [Act.put, List.setIfInBounds_toArray, List.set_cons_zero, List.set_cons_succ]; rfl
          refine seq_skip (a' := ?_) (some 27) rfl rfl (by rfl) ?_ ?_
          rotate_left
          · simp only [Act.put, List.setIfInBounds_toArray, List.set_cons_zero, List.set_cons_succ]; rfl
          refine seq_skip (a' := ?_) (some 28) rfl rfl (by rfl) ?_ ?_
          rotate_left
          · simp only [Act.put, List.setIfInBounds_toArray, List.set_cons_zero, List.set_cons_succ]; rfl
          refine seq_skip (a' := ?_) (some 29) rfl rfl (by rfl) ?_ ?_
          rotate_left
          · simp only [Act.put, List.setIfInBounds_toArray, List.set_cons_zero, List.set_cons_succ]; rfl
          refine seq_skip (a' := ?_) (some 30) rfl rfl (by rfl) ?_ ?_
          rotate_left
          · simp only [Act.put, List.setIfInBounds_toArray, List.set_cons_zero, List.set_cons_succ]; rfl
          refine seq_skip (a' := ?_) (some 31) rfl rfl (by rfl) ?_ ?_
          rotate_left
          · simp only [Act.put, List.setIfInBounds_toArray, List.set_cons_zero, List.set_cons_succ]; rfl
          refine seq_skip (a' := ?_) (some 32) rfl rfl (by rfl) ?_ ?_
          rotate_left
          · simp only [Act.put, List.setIfInBounds_toArray, List.set_cons_zero, List.set_cons_succ]; rfl
          refine seq_skip (a' := ?_) (some 33) rfl rfl (by rfl) ?_ ?_
          rotate_left
          · simp only [Act.put, List.setIfInBounds_toArray, List.set_cons_zero, List.set_cons_succ]; rfl
          refine seq_skip (a' := ?_) (some 34) rfl rfl (by rfl) ?_ ?_
          rotate_left
          · simp only [Act.put, List.setIfInBounds_toArray, List.set_cons_zero, List.set_cons_succ]; rfl
          refine seq_skip (a' := ?_) (some 35) rfl rfl (by rfl) ?_ ?_
          rotate_left
          · simp only [Act.put, List.setIfInBounds_toArray, List.set_cons_zero, List.set_cons_succ]; rfl
          refine seq_take (v := ?_) (a' := ?_) (some 36) rfl rfl (by rfl) ?_ ?_ ?_
          rotate_left; rotate_left
          · intro w' hS; go_simp; with_reducible rfl
          · simp only [Act.put, List.setIfInBounds_toArray, List.set_cons_zero, List.set_cons_succ]; rfl
          refine seq_done ?_
          go_wp2_with fail
          go_ret
          exact ⟨ret_bool HN.out.symm, bl_next HBW.out hB⟩
        · have HZ := Lib.hid (show (decide (whi p.2 = 0) && decide (wlo p.2 = 0)) = false by
            have := mt wz_iff.1 hz
            cases q1 : decide (whi p.2 = 0) <;> cases q2 : decide (wlo p.2 = 0) <;> simp_all)
          have HE := Lib.hid (show entB p = true by unfold entB; rw [hrt]; simpa using hz)
          clear hz
          by_cases h0 : k = 0
          · subst h0
            have HOK := Lib.hid (show rightV (v.take 1) = true by have := STEP.out; rw [HE.out] at this; simpa using this)
            have hB := hB.drew
            refine region_seq (fun w' => Below W.heap.size W w') [(0, true), (1, true), (2, false), (3, true), (4, true), (5, true), (6, true), (7, true), (8, true), (9, true), (10, true), (11, true), (12, true), (13, true), (14, true), (15, true), (16, true), (17, true), (18, true), (19, true), (20, true), (21, true), (22, true), (23, true), (24, true)] (by kernel_rfl) (by kernel_rfl) (fun _ _ _ _ h => h) hB ?_
            try generalize World.drew _ = wS at hB ⊢
            refine seq_take (v := ?_) (a' := ?_) (some 12) rfl rfl (by rfl) ?_ ?_ ?_
            rotate_left; rotate_left
            · intro w' hS; go_simp; with_reducible rfl
            · simp only [Act.put, List.setIfInBounds_toArray, List.set_cons_zero, List.set_cons_succ]; rfl
            refine seq_take (v := ?_) (a' := ?_) (some 13) rfl rfl (by rfl) ?_ ?_ ?_
            rotate_left; rotate_left
            · intro w' hS; have p0 := cb hS c0_0; have p1 := cb hS c0_1; have p2 := cb hS c0_2; go_simp; with_reducible rfl
            · simp only [Act.put, List.setIfInBounds_toArray, List.set_cons_zero, List.set_cons_succ]; rfl
            refine seq_call (args := ?_) Try.func42 (by kernel_rfl) rfl (some 14) rfl rfl (by rfl) rfl ?_ ?_
            rotate_left
            · simp only [List.map_toArray, List.map_cons, List.map_nil]; go_simp; rfl
            with_reducible refine (right_calls _ _ (by omega)).mono ?_
            rintro e w' ⟨rfl, hb⟩
            rw [hrt]
            refine ⟨_, rfl, bl_next (by repeat (first | with_reducible exact hB | refine Below.alloc ?_ (by have := hB.size; simp; omega) _ | refine bl_dN ?_ _ | refine Below.drew ?_ | refine Below.setCell ?_ (by have := hB.size; simp; omega) _)) hb, ?_⟩
            have hB := bl_next (by repeat (first | with_reducible exact hB | refine Below.alloc ?_ (by have := hB.size; simp; omega) _ | refine bl_dN ?_ _ | refine Below.drew ?_ | refine Below.setCell ?_ (by have := hB.size; simp; omega) _)) hb; clear hb
            simp only [Act.put, List.setIfInBounds_toArray, List.set_cons_zero, List.set_cons_succ]
            refine seq_take (v := ?_) (a' := ?_) (some 15) rfl rfl (by rfl) ?_ ?_ ?_
            rotate_left; rotate_left
            · intro w' hS; go_simp; with_reducible rfl
            · simp only [Act.put, List.setIfInBounds_toArray, List.set_cons_zero, List.set_cons_succ]; rfl
            refine seq_take (v := ?_) (a' := ?_) (some 16) rfl rfl (by rfl) ?_ ?_ ?_
            rotate_left; rotate_left
            · intro w' hS; go_simp; with_reducible rfl
            · simp only [Act.put, List.setIfInBounds_toArray, List.set_cons_zero, List.set_cons_succ]; rfl
            refine seq_take (v := ?_) (a' := ?_) (some 17) rfl rfl (by rfl) ?_ ?_ ?_
            rotate_left; rotate_left
            · intro w' hS; go_simp; with_reducible rfl
            · simp only [Act.put, List.setIfInBounds_toArray, List.set_cons_zero, List.set_cons_succ]; rfl
            refine seq_take (v := ?_) (a' := ?_) (some 18) rfl rfl (by rfl) ?_ ?_ ?_
            rotate_left; rotate_left
            · intro w' hS; have p0 := cb hS c0_0; have p1 := cb hS c0_1; have p2 := cb hS c0_2; go_simp; with_reducible rfl
            · simp only [Act.put, List.setIfInBounds_toArray, List.set_cons_zero, List.set_cons_succ]; rfl
            refine seq_take (v := ?_) (a' := ?_) (some 19) rfl rfl (by rfl) ?_ ?_ ?_
            rotate_left; rotate_left
            · intro w' hS; go_simp; with_reducible rfl
            · simp only [Act.put, List.setIfInBounds_toArray, List.set_cons_zero, List.set_cons_succ]; rfl
            refine seq_take (v := ?_) (a' := ?_) (some 20) rfl rfl (by rfl) ?_ ?_ ?_
            rotate_left; rotate_left
            · intro w' hS; (first | (go_simp; with_reducible rfl) | (go_simp; exact wideIf _ _ _ _ _ HZ.out))
            · simp only [Act.put, List.setIfInBounds_toArray, List.set_cons_zero, List.set_cons_succ]; rfl
            refine seq_take (v := ?_) (a' := ?_) (some 21) rfl rfl (by rfl) ?_ ?_ ?_
            rotate_left; rotate_left
            · intro w' hS; go_simp; with_reducible rfl
            · simp only [Act.put, List.setIfInBounds_toArray, List.set_cons_zero, List.set_cons_succ]; rfl
            refine seq_take (v := ?_) (a' := ?_) (some 22) rfl rfl (by rfl) ?_ ?_ ?_
            rotate_left; rotate_left
            · intro w' hS; go_simp; with_reducible rfl
            · simp only [Act.put, List.setIfInBounds_toArray, List.set_cons_zero, List.set_cons_succ]; rfl
            refine seq_take (v := ?_) (a' := ?_) (some 23) rfl rfl (by rfl) ?_ ?_ ?_
            rotate_left; rotate_left
            · intro w' hS; go_simp; with_reducible rfl
            · simp only [Act.put, List.setIfInBounds_toArray, List.set_cons_zero, List.set_cons_succ]; rfl
            refine seq_take (v := ?_) (a' := ?_) (some 24) rfl rfl (by rfl) ?_ ?_ ?_
            rotate_left; rotate_left
            · intro w' hS; go_simp; with_reducible rfl
            · simp only [Act.put, List.setIfInBounds_toArray, List.set_cons_zero, List.set_cons_succ]; rfl
            refine seq_take (v := ?_) (a' := ?_) (some 25) rfl rfl (by rfl) ?_ ?_ ?_
            rotate_left; rotate_left
            · intro w' hS; go_simp; with_reducible rfl
            · simp only [Act.put, List.setIfInBounds_toArray, List.set_cons_zero, List.set_cons_succ]; rfl
            refine seq_skip (a' := ?_) (some 26) rfl rfl (by rfl) ?_ ?_
            rotate_left
            · simp only [Act.put, List.setIfInBounds_toArray, List.set_cons_zero, List.set_cons_succ]; rfl
            refine seq_skip (a' := ?_) (some 27) rfl rfl (by rfl) ?_ ?_
            rotate_left
            · simp only [Act.put, List.setIfInBounds_toArray, List.set_cons_zero, List.set_cons_succ]; rfl
            refine seq_skip (a' := ?_) (some 28) rfl rfl (by rfl) ?_ ?_
            rotate_left
            · simp only [Act.put, List.setIfInBounds_toArray, List.set_cons_zero, List.set_cons_succ]; rfl
            refine seq_skip (a' := ?_) (some 29) rfl rfl (by rfl) ?_ ?_
            rotate_left
            · simp only [Act.put, List.setIfInBounds_toArray, List.set_cons_zero, List.set_cons_succ]; rfl
            refine seq_skip (a' := ?_) (some 30) rfl rfl (by rfl) ?_ ?_
            rotate_left
            · simp only [Act.put, List.setIfInBounds_toArray, List.set_cons_zero, List.set_cons_succ]; rfl
            refine seq_skip (a' := ?_) (some 31) rfl rfl (by rfl) ?_ ?_
            rotate_left
            · simp only [Act.put, List.setIfInBounds_toArray, List.set_cons_zero, List.set_cons_succ]; rfl
            refine seq_skip (a' := ?_) (some 32) rfl rfl (by rfl) ?_ ?_
            rotate_left
            · simp only [Act.put, List.setIfInBounds_toArray, List.set_cons_zero, List.set_cons_succ]; rfl
            refine seq_skip (a' := ?_) (some 33) rfl rfl (by rfl) ?_ ?_
            rotate_left
            · simp only [Act.put, List.setIfInBounds_toArray, List.set_cons_zero, List.set_cons_succ]; rfl
            refine seq_skip (a' := ?_) (some 34) rfl rfl (by rfl) ?_ ?_
            rotate_left
            · simp only [Act.put, List.setIfInBounds_toArray, List.set_cons_zero, List.set_cons_succ]; rfl
            refine seq_take (v := ?_) (a' := ?_) (some 35) rfl rfl (by rfl) ?_ ?_ ?_
            rotate_left; rotate_left
            · intro w' hS; go_simp; with_reducible rfl
            · simp only [Act.put, List.setIfInBounds_toArray, List.set_cons_zero, List.set_cons_succ]; rfl
            refine seq_take (v := ?_) (a' := ?_) (some 36) rfl rfl (by rfl) ?_ ?_ ?_
            rotate_left; rotate_left
            · intro w' hS; go_simp; with_reducible rfl
            · simp only [Act.put, List.setIfInBounds_toArray, List.set_cons_zero, List.set_cons_succ]; rfl
            refine seq_done ?_
            go_wp2_with fail
            go_roundw
            case rel => exact ⟨1, rfl, by omega, HOK, bl_next HBW.out hB⟩
            case measure => simp [intOf]; omega
          · obtain ⟨s, hs, hc⟩ := PREV.out (by omega)
            have hk0 : (0 : Int) < k := by omega
            have Q1 := cb Hw.out hc
            have hk1 : ((k : Int) - 1).toNat = k - 1 := by omega
            have hk2 : (0 : Int) ≤ (k : Int) - 1 := by omega
            have hk3 : (k : Int) - 1 < v.length := by omega
            have hk4 : (1 : Int) ≤ k := by omega
            have hk5 : 0 < k := by omega
            have hk6 : decide (0 < k) = true := decide_eq_true hk5
            have hk7 : IntKind.i64.wrap ((k : Int) - 1) = (k : Int) - 1 := IntWalk.i64_in _ (by omega)
            have hk8 : 1 ≤ k := hk5
            cases hlt : ltB s p.1 with
            | true =>
              have hbl : Op.bytesLess s.toList p.1.toList = true := hlt
              have HOK := Lib.hid (show rightV (v.take (k + 1)) = true by have := STEP.out; rw [HE.out, dif_pos (by omega), hs, hlt] at this; simpa using this)
              clear hlt
              have hB := hB.drew
              refine region_seq (fun w' => Below W.heap.size W w') [(0, true), (1, true), (2, false), (3, true), (4, true), (5, true), (6, true), (7, true), (8, true), (9, true), (10, true), (11, true), (12, true), (13, true), (14, true), (15, true), (16, true), (17, true), (18, true), (19, true), (20, true), (21, true), (22, true), (23, true), (24, true)] (by kernel_rfl) (by kernel_rfl) (fun _ _ _ _ h => h) hB ?_
              try generalize World.drew _ = wS at hB ⊢
              refine seq_take (v := ?_) (a' := ?_) (some 12) rfl rfl (by rfl) ?_ ?_ ?_
              rotate_left; rotate_left
              · intro w' hS; go_simp; with_reducible rfl
              · simp only [Act.put, List.setIfInBounds_toArray, List.set_cons_zero, List.set_cons_succ]; rfl
              refine seq_take (v := ?_) (a' := ?_) (some 13) rfl rfl (by rfl) ?_ ?_ ?_
              rotate_left; rotate_left
              · intro w' hS; have p0 := cb hS c0_0; have p1 := cb hS c0_1; have p2 := cb hS c0_2; have p3 := cb hS Q1; go_simp; with_reducible rfl
              · simp only [Act.put, List.setIfInBounds_toArray, List.set_cons_zero, List.set_cons_succ]; rfl
              refine seq_call (args := ?_) Try.func42 (by kernel_rfl) rfl (some 14) rfl rfl (by rfl) rfl ?_ ?_
              rotate_left
              · simp only [List.map_toArray, List.map_cons, List.map_nil]; go_simp; rfl
              with_reducible refine (right_calls _ _ (by omega)).mono ?_
              rintro e w' ⟨rfl, hb⟩
              rw [hrt]
              refine ⟨_, rfl, bl_next (by repeat (first | with_reducible exact hB | refine Below.alloc ?_ (by have := hB.size; simp; omega) _ | refine bl_dN ?_ _ | refine Below.drew ?_ | refine Below.setCell ?_ (by have := hB.size; simp; omega) _)) hb, ?_⟩
              have hB := bl_next (by repeat (first | with_reducible exact hB | refine Below.alloc ?_ (by have := hB.size; simp; omega) _ | refine bl_dN ?_ _ | refine Below.drew ?_ | refine Below.setCell ?_ (by have := hB.size; simp; omega) _)) hb; clear hb
              simp only [Act.put, List.setIfInBounds_toArray, List.set_cons_zero, List.set_cons_succ]
              refine seq_take (v := ?_) (a' := ?_) (some 15) rfl rfl (by rfl) ?_ ?_ ?_
              rotate_left; rotate_left
              · intro w' hS; go_simp; with_reducible rfl
              · simp only [Act.put, List.setIfInBounds_toArray, List.set_cons_zero, List.set_cons_succ]; rfl
              refine seq_take (v := ?_) (a' := ?_) (some 16) rfl rfl (by rfl) ?_ ?_ ?_
              rotate_left; rotate_left
              · intro w' hS; go_simp; with_reducible rfl
              · simp only [Act.put, List.setIfInBounds_toArray, List.set_cons_zero, List.set_cons_succ]; rfl
              refine seq_take (v := ?_) (a' := ?_) (some 17) rfl rfl (by rfl) ?_ ?_ ?_
              rotate_left; rotate_left
              · intro w' hS; go_simp; with_reducible rfl
              · simp only [Act.put, List.setIfInBounds_toArray, List.set_cons_zero, List.set_cons_succ]; rfl
              refine seq_take (v := ?_) (a' := ?_) (some 18) rfl rfl (by rfl) ?_ ?_ ?_
              rotate_left; rotate_left
              · intro w' hS; have p0 := cb hS c0_0; have p1 := cb hS c0_1; have p2 := cb hS c0_2; have p3 := cb hS Q1; go_simp; with_reducible rfl
              · simp only [Act.put, List.setIfInBounds_toArray, List.set_cons_zero, List.set_cons_succ]; rfl
              refine seq_take (v := ?_) (a' := ?_) (some 19) rfl rfl (by rfl) ?_ ?_ ?_
              rotate_left; rotate_left
              · intro w' hS; go_simp; with_reducible rfl
              · simp only [Act.put, List.setIfInBounds_toArray, List.set_cons_zero, List.set_cons_succ]; rfl
              refine seq_take (v := ?_) (a' := ?_) (some 20) rfl rfl (by rfl) ?_ ?_ ?_
              rotate_left; rotate_left
              · intro w' hS; (first | (go_simp; with_reducible rfl) | (go_simp; exact wideIf _ _ _ _ _ HZ.out))
              · simp only [Act.put, List.setIfInBounds_toArray, List.set_cons_zero, List.set_cons_succ]; rfl
              refine seq_take (v := ?_) (a' := ?_) (some 21) rfl rfl (by rfl) ?_ ?_ ?_
              rotate_left; rotate_left
              · intro w' hS; go_simp; with_reducible rfl
              · simp only [Act.put, List.setIfInBounds_toArray, List.set_cons_zero, List.set_cons_succ]; rfl
              refine seq_take (v := ?_) (a' := ?_) (some 22) rfl rfl (by rfl) ?_ ?_ ?_
              rotate_left; rotate_left
              · intro w' hS; go_simp; with_reducible rfl
              · simp only [Act.put, List.setIfInBounds_toArray, List.set_cons_zero, List.set_cons_succ]; rfl
              refine seq_take (v := ?_) (a' := ?_) (some 23) rfl rfl (by rfl) ?_ ?_ ?_
              rotate_left; rotate_left
              · intro w' hS; go_simp; with_reducible rfl
              · simp only [Act.put, List.setIfInBounds_toArray, List.set_cons_zero, List.set_cons_succ]; rfl
              refine seq_take (v := ?_) (a' := ?_) (some 24) rfl rfl (by rfl) ?_ ?_ ?_
              rotate_left; rotate_left
              · intro w' hS; go_simp; with_reducible rfl
              · simp only [Act.put, List.setIfInBounds_toArray, List.set_cons_zero, List.set_cons_succ]; rfl
              refine seq_take (v := ?_) (a' := ?_) (some 25) rfl rfl (by rfl) ?_ ?_ ?_
              rotate_left; rotate_left
              · intro w' hS; go_simp; with_reducible rfl
              · simp only [Act.put, List.setIfInBounds_toArray, List.set_cons_zero, List.set_cons_succ]; rfl
              refine seq_take (v := ?_) (a' := ?_) (some 26) rfl rfl (by rfl) ?_ ?_ ?_
              rotate_left; rotate_left
              · intro w' hS; go_simp; with_reducible rfl
              · simp only [Act.put, List.setIfInBounds_toArray, List.set_cons_zero, List.set_cons_succ]; rfl
              refine seq_take (v := ?_) (a' := ?_) (some 27) rfl rfl (by rfl) ?_ ?_ ?_
              rotate_left; rotate_left
              · intro w' hS; go_simp; with_reducible rfl
              · simp only [Act.put, List.setIfInBounds_toArray, List.set_cons_zero, List.set_cons_succ]; rfl
              refine seq_take (v := ?_) (a' := ?_) (some 28) rfl rfl (by rfl) ?_ ?_ ?_
              rotate_left; rotate_left
              · intro w' hS; go_simp; with_reducible rfl
              · simp only [Act.put, List.setIfInBounds_toArray, List.set_cons_zero, List.set_cons_succ]; rfl
              refine seq_take (v := ?_) (a' := ?_) (some 29) rfl rfl (by rfl) ?_ ?_ ?_
              rotate_left; rotate_left
              · intro w' hS; go_simp; with_reducible rfl
              · simp only [Act.put, List.setIfInBounds_toArray, List.set_cons_zero, List.set_cons_succ]; rfl
              refine seq_take (v := ?_) (a' := ?_) (some 30) rfl rfl (by rfl) ?_ ?_ ?_
              rotate_left; rotate_left
              · intro w' hS; go_simp; with_reducible rfl
              · simp only [Act.put, List.setIfInBounds_toArray, List.set_cons_zero, List.set_cons_succ]; rfl
              refine seq_take (v := ?_) (a' := ?_) (some 31) rfl rfl (by rfl) ?_ ?_ ?_
              rotate_left; rotate_left
              · intro w' hS; have p0 := cb hS c0_0; have p1 := cb hS c0_1; have p2 := cb hS c0_2; have p3 := cb hS Q1; go_simp; with_reducible rfl
              · simp only [Act.put, List.setIfInBounds_toArray, List.set_cons_zero, List.set_cons_succ]; rfl
              refine seq_take (v := ?_) (a' := ?_) (some 32) rfl rfl (by rfl) ?_ ?_ ?_
              rotate_left; rotate_left
              · intro w' hS; go_simp; with_reducible rfl
              · simp only [Act.put, List.setIfInBounds_toArray, List.set_cons_zero, List.set_cons_succ]; rfl
              refine seq_take (v := ?_) (a' := ?_) (some 33) rfl rfl (by rfl) ?_ ?_ ?_
              rotate_left; rotate_left
              · intro w' hS; have p0 := cb hS c0_0; have p1 := cb hS c0_1; have p2 := cb hS c0_2; have p3 := cb hS Q1; go_simp; with_reducible rfl
              · simp only [Act.put, List.setIfInBounds_toArray, List.set_cons_zero, List.set_cons_succ]; rfl
              refine seq_take (v := ?_) (a' := ?_) (some 34) rfl rfl (by rfl) ?_ ?_ ?_
              rotate_left; rotate_left
              · intro w' hS; go_simp; with_reducible rfl
              · simp only [Act.put, List.setIfInBounds_toArray, List.set_cons_zero, List.set_cons_succ]; rfl
              refine seq_take (v := ?_) (a' := ?_) (some 35) rfl rfl (by rfl) ?_ ?_ ?_
              rotate_left; rotate_left
              · intro w' hS; go_simp; with_reducible rfl
              · simp only [Act.put, List.setIfInBounds_toArray, List.set_cons_zero, List.set_cons_succ]; rfl
              refine seq_take (v := ?_) (a' := ?_) (some 36) rfl rfl (by rfl) ?_ ?_ ?_
              rotate_left; rotate_left
              · intro w' hS; go_simp; with_reducible rfl
              · simp only [Act.put, List.setIfInBounds_toArray, List.set_cons_zero, List.set_cons_succ]; rfl
              refine seq_done ?_
              go_wp2_with fail
              go_roundw
              case rel => exact ⟨k + 1, by simp, by omega, HOK, bl_next HBW.out hB⟩
              case measure => simp [intOf]; omega
            | false =>
              have hbl : Op.bytesLess s.toList p.1.toList = false := hlt
              have HN := Lib.hid (NOT.out (by have := STEP.out; rw [HE.out, dif_pos (by omega), hs, hlt] at this; simpa using this))
              clear hlt
              have hB := hB.drew
              refine region_seq (fun w' => Below W.heap.size W w') [(0, true), (1, true), (2, false), (3, true), (4, true), (5, true), (6, true), (7, true), (8, true), (9, true), (10, true), (11, true), (12, true), (13, true), (14, true), (15, true), (16, true), (17, true), (18, true), (19, true), (20, true), (21, true), (22, true), (23, true), (24, true)] (by kernel_rfl) (by kernel_rfl) (fun _ _ _ _ h => h) hB ?_
              try generalize World.drew _ = wS at hB ⊢
              refine seq_take (v := ?_) (a' := ?_) (some 12) rfl rfl (by rfl) ?_ ?_ ?_
              rotate_left; rotate_left
              · intro w' hS; go_simp; with_reducible rfl
              · simp only [Act.put, List.setIfInBounds_toArray, List.set_cons_zero, List.set_cons_succ]; rfl
              refine seq_take (v := ?_) (a' := ?_) (some 13) rfl rfl (by rfl) ?_ ?_ ?_
              rotate_left; rotate_left
              · intro w' hS; have p0 := cb hS c0_0; have p1 := cb hS c0_1; have p2 := cb hS c0_2; have p3 := cb hS Q1; go_simp; with_reducible rfl
              · simp only [Act.put, List.setIfInBounds_toArray, List.set_cons_zero, List.set_cons_succ]; rfl
              refine seq_call (args := ?_) Try.func42 (by kernel_rfl) rfl (some 14) rfl rfl (by rfl) rfl ?_ ?_
              rotate_left
              · simp only [List.map_toArray, List.map_cons, List.map_nil]; go_simp; rfl
              with_reducible refine (right_calls _ _ (by omega)).mono ?_
              rintro e w' ⟨rfl, hb⟩
              rw [hrt]
              refine ⟨_, rfl, bl_next (by repeat (first | with_reducible exact hB | refine Below.alloc ?_ (by have := hB.size; simp; omega) _ | refine bl_dN ?_ _ | refine Below.drew ?_ | refine Below.setCell ?_ (by have := hB.size; simp; omega) _)) hb, ?_⟩
              have hB := bl_next (by repeat (first | with_reducible exact hB | refine Below.alloc ?_ (by have := hB.size; simp; omega) _ | refine bl_dN ?_ _ | refine Below.drew ?_ | refine Below.setCell ?_ (by have := hB.size; simp; omega) _)) hb; clear hb
              simp only [Act.put, List.setIfInBounds_toArray, List.set_cons_zero, List.set_cons_succ]
              refine seq_take (v := ?_) (a' := ?_) (some 15) rfl rfl (by rfl) ?_ ?_ ?_
              rotate_left; rotate_left
              · intro w' hS; go_simp; with_reducible rfl
              · simp only [Act.put, List.setIfInBounds_toArray, List.set_cons_zero, List.set_cons_succ]; rfl
              refine seq_take (v := ?_) (a' := ?_) (some 16) rfl rfl (by rfl) ?_ ?_ ?_
              rotate_left; rotate_left
              · intro w' hS; go_simp; with_reducible rfl
              · simp only [Act.put, List.setIfInBounds_toArray, List.set_cons_zero, List.set_cons_succ]; rfl
              refine seq_take (v := ?_) (a' := ?_) (some 17) rfl rfl (by rfl) ?_ ?_ ?_
              rotate_left; rotate_left
              · intro w' hS; go_simp; with_reducible rfl
              · simp only [Act.put, List.setIfInBounds_toArray, List.set_cons_zero, List.set_cons_succ]; rfl
              refine seq_take (v := ?_) (a' := ?_) (some 18) rfl rfl (by rfl) ?_ ?_ ?_
              rotate_left; rotate_left
              · intro w' hS; have p0 := cb hS c0_0; have p1 := cb hS c0_1; have p2 := cb hS c0_2; have p3 := cb hS Q1; go_simp; with_reducible rfl
              · simp only [Act.put, List.setIfInBounds_toArray, List.set_cons_zero, List.set_cons_succ]; rfl
              refine seq_take (v := ?_) (a' := ?_) (some 19) rfl rfl (by rfl) ?_ ?_ ?_
              rotate_left; rotate_left
              · intro w' hS; go_simp; with_reducible rfl
              · simp only [Act.put, List.setIfInBounds_toArray, List.set_cons_zero, List.set_cons_succ]; rfl
              refine seq_take (v := ?_) (a' := ?_) (some 20) rfl rfl (by rfl) ?_ ?_ ?_
              rotate_left; rotate_left
              · intro w' hS; (first | (go_simp; with_reducible rfl) | (go_simp; exact wideIf _ _ _ _ _ HZ.out))
              · simp only [Act.put, List.setIfInBounds_toArray, List.set_cons_zero, List.set_cons_succ]; rfl
              refine seq_take (v := ?_) (a' := ?_) (some 21) rfl rfl (by rfl) ?_ ?_ ?_
              rotate_left; rotate_left
              · intro w' hS; go_simp; with_reducible rfl
              · simp only [Act.put, List.setIfInBounds_toArray, List.set_cons_zero, List.set_cons_succ]; rfl
              refine seq_take (v := ?_) (a' := ?_) (some 22) rfl rfl (by rfl) ?_ ?_ ?_
              rotate_left; rotate_left
              · intro w' hS; go_simp; with_reducible rfl
              · simp only [Act.put, List.setIfInBounds_toArray, List.set_cons_zero, List.set_cons_succ]; rfl
              refine seq_take (v := ?_) (a' := ?_) (some 23) rfl rfl (by rfl) ?_ ?_ ?_
              rotate_left; rotate_left
              · intro w' hS; go_simp; with_reducible rfl
              · simp only [Act.put, List.setIfInBounds_toArray, List.set_cons_zero, List.set_cons_succ]; rfl
              refine seq_take (v := ?_) (a' := ?_) (some 24) rfl rfl (by rfl) ?_ ?_ ?_
              rotate_left; rotate_left
              · intro w' hS; go_simp; with_reducible rfl
              · simp only [Act.put, List.setIfInBounds_toArray, List.set_cons_zero, List.set_cons_succ]; rfl
              refine seq_take (v := ?_) (a' := ?_) (some 25) rfl rfl (by rfl) ?_ ?_ ?_
              rotate_left; rotate_left
              · intro w' hS; go_simp; with_reducible rfl
              · simp only [Act.put, List.setIfInBounds_toArray, List.set_cons_zero, List.set_cons_succ]; rfl
              refine seq_take (v := ?_) (a' := ?_) (some 26) rfl rfl (by rfl) ?_ ?_ ?_
              rotate_left; rotate_left
              · intro w' hS; go_simp; with_reducible rfl
              · simp only [Act.put, List.setIfInBounds_toArray, List.set_cons_zero, List.set_cons_succ]; rfl
              refine seq_take (v := ?_) (a' := ?_) (some 27) rfl rfl (by rfl) ?_ ?_ ?_
              rotate_left; rotate_left
              · intro w' hS; go_simp; with_reducible rfl
              · simp only [Act.put, List.setIfInBounds_toArray, List.set_cons_zero, List.set_cons_succ]; rfl
              refine seq_take (v := ?_) (a' := ?_) (some 28) rfl rfl (by rfl) ?_ ?_ ?_
              rotate_left; rotate_left
              · intro w' hS; go_simp; with_reducible rfl
              · simp only [Act.put, List.setIfInBounds_toArray, List.set_cons_zero, List.set_cons_succ]; rfl
              refine seq_take (v := ?_) (a' := ?_) (some 29) rfl rfl (by rfl) ?_ ?_ ?_
              rotate_left; rotate_left
              · intro w' hS; go_simp; with_reducible rfl
              · simp only [Act.put, List.setIfInBounds_toArray, List.set_cons_zero, List.set_cons_succ]; rfl
              refine seq_take (v := ?_) (a' := ?_) (some 30) rfl rfl (by rfl) ?_ ?_ ?_
              rotate_left; rotate_left
              · intro w' hS; go_simp; with_reducible rfl
              · simp only [Act.put, List.setIfInBounds_toArray, List.set_cons_zero, List.set_cons_succ]; rfl
              refine seq_take (v := ?_) (a' := ?_) (some 31) rfl rfl (by rfl) ?_ ?_ ?_
              rotate_left; rotate_left
              · intro w' hS; have p0 := cb hS c0_0; have p1 := cb hS c0_1; have p2 := cb hS c0_2; have p3 := cb hS Q1; go_simp; with_reducible rfl
              · simp only [Act.put, List.setIfInBounds_toArray, List.set_cons_zero, List.set_cons_succ]; rfl
              refine seq_take (v := ?_) (a' := ?_) (some 32) rfl rfl (by rfl) ?_ ?_ ?_
              rotate_left; rotate_left
              · intro w' hS; go_simp; with_reducible rfl
              · simp only [Act.put, List.setIfInBounds_toArray, List.set_cons_zero, List.set_cons_succ]; rfl
              refine seq_take (v := ?_) (a' := ?_) (some 33) rfl rfl (by rfl) ?_ ?_ ?_
              rotate_left; rotate_left
              · intro w' hS; have p0 := cb hS c0_0; have p1 := cb hS c0_1; have p2 := cb hS c0_2; have p3 := cb hS Q1; go_simp; with_reducible rfl
              · simp only [Act.put, List.setIfInBounds_toArray, List.set_cons_zero, List.set_cons_succ]; rfl
              refine seq_take (v := ?_) (a' := ?_) (some 34) rfl rfl (by rfl) ?_ ?_ ?_
              rotate_left; rotate_left
              · intro w' hS; go_simp; with_reducible rfl
              · simp only [Act.put, List.setIfInBounds_toArray, List.set_cons_zero, List.set_cons_succ]; rfl
              refine seq_take (v := ?_) (a' := ?_) (some 35) rfl rfl (by rfl) ?_ ?_ ?_
              rotate_left; rotate_left
              · intro w' hS; go_simp; with_reducible rfl
              · simp only [Act.put, List.setIfInBounds_toArray, List.set_cons_zero, List.set_cons_succ]; rfl
              refine seq_take (v := ?_) (a' := ?_) (some 36) rfl rfl (by rfl) ?_ ?_ ?_
              rotate_left; rotate_left
              · intro w' hS; go_simp; with_reducible rfl
              · simp only [Act.put, List.setIfInBounds_toArray, List.set_cons_zero, List.set_cons_succ]; rfl
              refine seq_done ?_
              go_wp2_with fail
              go_ret
              exact ⟨ret_bool HN.out.symm, bl_next HBW.out hB⟩
      · have hrf : rightB p.1 = false := by simpa using hrt
        have HN := Lib.hid (NOT.out (by rw [STEP.out]; unfold entB; rw [hrf]; simp))
        clear hrt
        have hB := hB.drew
        refine region_seq (fun w' => Below W.heap.size W w') [(0, true), (1, true), (2, false), (3, true), (4, true), (5, true), (6, true), (7, true), (8, true), (9, true), (10, true), (11, true), (12, true), (13, true), (14, true), (15, true), (16, true), (17, true), (18, true), (19, true), (20, true), (21, true), (22, true), (23, true), (24, true)] (by kernel_rfl) (by kernel_rfl) (fun _ _ _ _ h => h) hB ?_
        try generalize World.drew _ = wS at hB ⊢
        refine seq_take (v := ?_) (a' := ?_) (some 12) rfl rfl (by rfl) ?_ ?_ ?_
        rotate_left; rotate_left
        · intro w' hS; go_simp; with_reducible rfl
        · simp only [Act.put, List.setIfInBounds_toArray, List.set_cons_zero, List.set_cons_succ]; rfl
        refine seq_take (v := ?_) (a' := ?_) (some 13) rfl rfl (by rfl) ?_ ?_ ?_
        rotate_left; rotate_left
        · intro w' hS; have p0 := cb hS c0_0; have p1 := cb hS c0_1; have p2 := cb hS c0_2; go_simp; with_reducible rfl
        · simp only [Act.put, List.setIfInBounds_toArray, List.set_cons_zero, List.set_cons_succ]; rfl
        refine seq_call (args := ?_) Try.func42 (by kernel_rfl) rfl (some 14) rfl rfl (by rfl) rfl ?_ ?_
        rotate_left
        · simp only [List.map_toArray, List.map_cons, List.map_nil]; go_simp; rfl
        with_reducible refine (right_calls _ _ (by omega)).mono ?_
        rintro e w' ⟨rfl, hb⟩
        rw [hrf]
        refine ⟨_, rfl, bl_next (by repeat (first | with_reducible exact hB | refine Below.alloc ?_ (by have := hB.size; simp; omega) _ | refine bl_dN ?_ _ | refine Below.drew ?_ | refine Below.setCell ?_ (by have := hB.size; simp; omega) _)) hb, ?_⟩
        have hB := bl_next (by repeat (first | with_reducible exact hB | refine Below.alloc ?_ (by have := hB.size; simp; omega) _ | refine bl_dN ?_ _ | refine Below.drew ?_ | refine Below.setCell ?_ (by have := hB.size; simp; omega) _)) hb; clear hb
        simp only [Act.put, List.setIfInBounds_toArray, List.set_cons_zero, List.set_cons_succ]
        refine seq_take (v := ?_) (a' := ?_) (some 15) rfl rfl (by rfl) ?_ ?_ ?_
        rotate_left; rotate_left
        · intro w' hS; go_simp; with_reducible rfl
        · simp only [Act.put, List.setIfInBounds_toArray, List.set_cons_zero, List.set_cons_succ]; rfl
        refine seq_take (v := ?_) (a' := ?_) (some 16) rfl rfl (by rfl) ?_ ?_ ?_
        rotate_left; rotate_left
        · intro w' hS; go_simp; with_reducible rfl
        · simp only [Act.put, List.setIfInBounds_toArray, List.set_cons_zero, List.set_cons_succ]; rfl
        refine seq_skip (a' := ?_) (some 17) rfl rfl (by rfl) ?_ ?_
        rotate_left
        · simp only [Act.put, List.setIfInBounds_toArray, List.set_cons_zero, List.set_cons_succ]; rfl
        refine seq_skip (a' := ?_) (some 18) rfl rfl (by rfl) ?_ ?_
        rotate_left
        · simp only [Act.put, List.setIfInBounds_toArray, List.set_cons_zero, List.set_cons_succ]; rfl
        refine seq_skip (a' := ?_) (some 19) rfl rfl (by rfl) ?_ ?_
        rotate_left
        · simp only [Act.put, List.setIfInBounds_toArray, List.set_cons_zero, List.set_cons_succ]; rfl
        refine seq_skip (a' := ?_) (some 20) rfl rfl (by rfl) ?_ ?_
        rotate_left
        · simp only [Act.put, List.setIfInBounds_toArray, List.set_cons_zero, List.set_cons_succ]; rfl
        refine seq_take (v := ?_) (a' := ?_) (some 21) rfl rfl (by rfl) ?_ ?_ ?_
        rotate_left; rotate_left
        · intro w' hS; go_simp; with_reducible rfl
        · simp only [Act.put, List.setIfInBounds_toArray, List.set_cons_zero, List.set_cons_succ]; rfl
        refine seq_take (v := ?_) (a' := ?_) (some 22) rfl rfl (by rfl) ?_ ?_ ?_
        rotate_left; rotate_left
        · intro w' hS; go_simp; with_reducible rfl
        · simp only [Act.put, List.setIfInBounds_toArray, List.set_cons_zero, List.set_cons_succ]; rfl
        refine seq_skip (a' := ?_) (some 23) rfl rfl (by rfl) ?_ ?_
        rotate_left
        · simp only [Act.put, List.setIfInBounds_toArray, List.set_cons_zero, List.set_cons_succ]; rfl
        refine seq_skip (a' := ?_) (some 24) rfl rfl (by rfl) ?_ ?_
        rotate_left
        · simp only [Act.put, List.setIfInBounds_toArray, List.set_cons_zero, List.set_cons_succ]; rfl
        refine seq_skip (a' := ?_) (some 25) rfl rfl (by rfl) ?_ ?_
        rotate_left
        · simp only [Act.put, List.setIfInBounds_toArray, List.set_cons_zero, List.set_cons_succ]; rfl
        refine seq_skip (a' := ?_) (some 26) rfl rfl (by rfl) ?_ ?_
        rotate_left
        · simp only [Act.put, List.setIfInBounds_toArray, List.set_cons_zero, List.set_cons_succ]; rfl
        refine seq_skip (a' := ?_) (some 27) rfl rfl (by rfl) ?_ ?_
        rotate_left
        · simp only [Act.put, List.setIfInBounds_toArray, List.set_cons_zero, List.set_cons_succ]; rfl
        refine seq_skip (a' := ?_) (some 28) rfl rfl (by rfl) ?_ ?_
        rotate_left
        · simp only [Act.put, List.setIfInBounds_toArray, List.set_cons_zero, List.set_cons_succ]; rfl
        refine seq_skip (a' := ?_) (some 29) rfl rfl (by rfl) ?_ ?_
        rotate_left
        · simp only [Act.put, List.setIfInBounds_toArray, List.set_cons_zero, List.set_cons_succ]; rfl
        refine seq_skip (a' := ?_) (some 30) rfl rfl (by rfl) ?_ ?_
        rotate_left
        · simp only [Act.put, List.setIfInBounds_toArray, List.set_cons_zero, List.set_cons_succ]; rfl
        refine seq_skip (a' := ?_) (some 31) rfl rfl (by rfl) ?_ ?_
        rotate_left
        · simp only [Act.put, List.setIfInBounds_toArray, List.set_cons_zero, List.set_cons_succ]; rfl
        refine seq_skip (a' := ?_) (some 32) rfl rfl (by rfl) ?_ ?_
        rotate_left
        · simp only [Act.put, List.setIfInBounds_toArray, List.set_cons_zero, List.set_cons_succ]; rfl
        refine seq_skip (a' := ?_) (some 33) rfl rfl (by rfl) ?_ ?_
        rotate_left
        · simp only [Act.put, List.setIfInBounds_toArray, List.set_cons_zero, List.set_cons_succ]; rfl
        refine seq_skip (a' := ?_) (some 34) rfl rfl (by rfl) ?_ ?_
        rotate_left
        · simp only [Act.put, List.setIfInBounds_toArray, List.set_cons_zero, List.set_cons_succ]; rfl
        refine seq_skip (a' := ?_) (some 35) rfl rfl (by rfl) ?_ ?_
        rotate_left
        · simp only [Act.put, List.setIfInBounds_toArray, List.set_cons_zero, List.set_cons_succ]; rfl
        refine seq_take (v := ?_) (a' := ?_) (some 36) rfl rfl (by rfl) ?_ ?_ ?_
        rotate_left; rotate_left
        · intro w' hS; go_simp; with_reducible rfl
        · simp only [Act.put, List.setIfInBounds_toArray, List.set_cons_zero, List.set_cons_succ]; rfl
        refine seq_done ?_
        go_wp2_with fail
        go_ret
        exact ⟨ret_bool HN.out.symm, bl_next HBW.out hB⟩
    · obtain rfl : k = v.length := by omega
      have HOK := Lib.hid (show rightV v = true by have := HR.out; rwa [List.take_length] at this)
      go_wp2_with fail
      go_ret
      exact ⟨ret_bool HOK.out.symm, hB⟩
end Go.Proofs.Yteomicjjaajblaa

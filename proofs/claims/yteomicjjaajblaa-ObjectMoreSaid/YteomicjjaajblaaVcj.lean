import Derived.Test.YteomicjjaajblaaVci
namespace Go.Proofs.Yteomicjjaajblaa
open Go.RowKit Go.Shelf Go.Maps
set_option linter.unusedVariables false
set_option linter.unusedSimpArgs false
/-! ### Lists of entries, and of resources: are they one? -/
theorem ent_ne {p r : ByteArray × Int} (h : ¬ p = r) : (decide (p.1 = r.1) && (decide (whi p.2 = whi r.2) && decide (wlo p.2 = wlo r.2))) = false := by
  rw [Bool.and_eq_false_iff, Bool.and_eq_false_iff]
  by_cases h1 : p.1 = r.1
  · have h2 : p.2 ≠ r.2 := fun e => h (Prod.ext h1 e)
    have : ¬ (whi p.2 = whi r.2 ∧ wlo p.2 = wlo r.2) := by unfold whi wlo; omega
    simp only [decide_eq_false_iff_not]; omega
  · simp [h1]
theorem res_ne {p r : ByteArray × Int} (h : ¬ p = r) : (decide (p.1 = r.1) && decide (p.2 = r.2)) = false := by
  rw [Bool.and_eq_false_iff]
  by_cases h1 : p.1 = r.1
  · have h2 : p.2 ≠ r.2 := fun e => h (Prod.ext h1 e)
    simp [h2]
  · simp [h1]
theorem resIf (s s' : ByteArray) (n n' : Int) (w : World) {q : Bool} (hq : (decide (s = s') && decide (n = n')) = q) : (if s.toList = s'.toList then if n = n' then Result.ok (Next.value (Value.bool false)) w else Result.ok (Next.value (Value.bool true)) w else Result.ok (Next.value (Value.bool true)) w)
    = .ok (.value (.bool !q)) w := by
  rw [← hq]
  simp only [ba_eq]
  by_cases h1 : s = s' <;> by_cases h2 : n = n' <;> simp [h1, h2]
theorem entIf (s s' : ByteArray) (n n' m m' : Int) (w : World) {q : Bool} (hq : (decide (s = s') && (decide (n = n') && decide (m = m'))) = q) : (if s.toList = s'.toList then if n = n' then if m = m' then Result.ok (Next.value (Value.bool false)) w else Result.ok (Next.value (Value.bool true)) w else Result.ok (Next.value (Value.bool true)) w else Result.ok (Next.value (Value.bool true)) w)
    = .ok (.value (.bool !q)) w := by
  rw [← hq]
  simp only [ba_eq]
  by_cases h1 : s = s' <;> by_cases h2 : n = n' <;> by_cases h3 : m = m' <;> simp [h1, h2, h3]
set_option maxRecDepth 100000 in
set_option maxHeartbeats 8000000 in
theorem veq_calls (w : World) {u v : Value} {l m : Vec} (hu : VecS w u l) (hv : VecS w v m) (hl : l.length ≤ 1000000) (hm : m.length ≤ 1000000) :
    Calls Try.prog 52 #[u, v] w fun e w' => e = .returned (.bool (decide (l = m))) ∧ Below w.heap.size w w' := by
  have hB := Below.refl w.heap.size w
  have HU := Lib.hid hu
  have HV := Lib.hid hv
  obtain ⟨au, cu, rfl⟩ := hu.form
  obtain ⟨av, cv, rfl⟩ := hv.form
  clear hu hv
  by_cases hlen : l.length = m.length
  · have HL := Lib.hid hlen
    rw [hlen] at hl HU ⊢
    have HLM := Lib.hid (show ∀ j (h1 : j < m.length), j < l.length from fun j h => by omega)
    clear hlen
    go_enter Try.func52, Try.ntmps52
    go_wp2_with fail
    go_loopw [13] (fun i wr => ∃ k : Nat, i = .int .i64 k ∧ k ≤ m.length ∧ Hid (l.take k = m.take k) ∧ Below w.heap.size w wr) (fun i _ => m.length - (intOf i).toNat)
    case atStart => exact ⟨0, rfl, Nat.zero_le _, Lib.hid rfl, hB⟩
    case round =>
      clear hB
      obtain ⟨k, rfl, hk, HT, hB⟩ := hrel
      by_cases hkl : k < m.length
      · have hkI : (k : Int) < m.length := by omega
        have hk2 := HLM.out k hkl
        obtain ⟨b1, o1, d1, he1, q0, q1, q2, hq⟩ := HU.out.at' hk2
        obtain ⟨b2, o2, d2, he2, r0, r1, r2, hr⟩ := HV.out.at' hkl
        rw [HL.out] at he1
        cases he1
        cases he2
        clear hq hr
        have q0 := cb hB q0; have r0 := cb hB r0
        have q1 := cb hB q1; have r1 := cb hB r1
        have q2 := cb hB q2; have r2 := cb hB r2
        have HX := Lib.hid (List.take_succ_eq_append_getElem hk2)
        have HY := Lib.hid (List.take_succ_eq_append_getElem hkl)
        have HNE := Lib.hid (show l[k]'hk2 ≠ m[k]'hkl → l ≠ m from fun h e => h (by subst e; rfl))
        obtain ⟨p, hp⟩ : ∃ p, l[k]'hk2 = p := ⟨_, rfl⟩
        obtain ⟨r, hr⟩ : ∃ r, m[k]'hkl = r := ⟨_, rfl⟩
        rw [hp] at q0 q1 q2 HX HNE
        rw [hr] at r0 r1 r2 HY HNE
        clear hp hr
        obtain ⟨V, rfl⟩ : ∃ V : World, V = wr := ⟨_, rfl⟩
        have HB0 := Lib.hid hB
        clear hB
        have hB := Below.refl V.heap.size V
        go_upto_region 6 with fail
        by_cases hpr : p = r
        · have HZ : Hid ((decide (p.1 = r.1) && (decide (whi p.2 = whi r.2) && decide (wlo p.2 = wlo r.2))) = true) := Lib.hid (by rw [hpr]; simp)
          have HPR := Lib.hid hpr
          clear hpr
          have hB := hB.drew
          refine region_seq (fun w' => Below V.heap.size V w') [(0, true), (1, true), (2, true), (3, true), (4, true), (5, true), (6, true), (7, true), (8, true)] (by kernel_rfl) (by kernel_rfl) (fun _ _ _ _ h => h) hB ?_
          try generalize World.drew _ = wS at hB ⊢
          refine seq_take (v := ?_) (a' := ?_) (some 16) rfl rfl (by rfl) ?_ ?_ ?_
          rotate_left; rotate_left
          · intro w' hS; go_simp; with_reducible rfl
          · simp only [Act.put, List.setIfInBounds_toArray, List.set_cons_zero, List.set_cons_succ]; rfl
          refine seq_take (v := ?_) (a' := ?_) (some 17) rfl rfl (by rfl) ?_ ?_ ?_
          rotate_left; rotate_left
          · intro w' hS; go_simp; with_reducible rfl
          · simp only [Act.put, List.setIfInBounds_toArray, List.set_cons_zero, List.set_cons_succ]; rfl
          refine seq_take (v := ?_) (a' := ?_) (some 18) rfl rfl (by rfl) ?_ ?_ ?_
          rotate_left; rotate_left
          · intro w' hS; go_simp; with_reducible rfl
          · simp only [Act.put, List.setIfInBounds_toArray, List.set_cons_zero, List.set_cons_succ]; rfl
          refine seq_take (v := ?_) (a' := ?_) (some 19) rfl rfl (by rfl) ?_ ?_ ?_
          rotate_left; rotate_left
          · intro w' hS; have p0 := cb hS q0; have s0 := cb hS r0; have p1 := cb hS q1; have s1 := cb hS r1; have p2 := cb hS q2; have s2 := cb hS r2; go_simp; with_reducible rfl
          · simp only [Act.put, List.setIfInBounds_toArray, List.set_cons_zero, List.set_cons_succ]; rfl
          refine seq_take (v := ?_) (a' := ?_) (some 20) rfl rfl (by rfl) ?_ ?_ ?_
          rotate_left; rotate_left
          · intro w' hS; go_simp; with_reducible rfl
          · simp only [Act.put, List.setIfInBounds_toArray, List.set_cons_zero, List.set_cons_succ]; rfl
          refine seq_take (v := ?_) (a' := ?_) (some 21) rfl rfl (by rfl) ?_ ?_ ?_
          rotate_left; rotate_left
          · intro w' hS; go_simp; with_reducible rfl
          · simp only [Act.put, List.setIfInBounds_toArray, List.set_cons_zero, List.set_cons_succ]; rfl
          refine seq_take (v := ?_) (a' := ?_) (some 22) rfl rfl (by rfl) ?_ ?_ ?_
          rotate_left; rotate_left
          · intro w' hS; go_simp; with_reducible rfl
          · simp only [Act.put, List.setIfInBounds_toArray, List.set_cons_zero, List.set_cons_succ]; rfl
          refine seq_take (v := ?_) (a' := ?_) (some 23) rfl rfl (by rfl) ?_ ?_ ?_
          rotate_left; rotate_left
          · intro w' hS; have p0 := cb hS q0; have s0 := cb hS r0; have p1 := cb hS q1; have s1 := cb hS r1; have p2 := cb hS q2; have s2 := cb hS r2; go_simp; with_reducible rfl
          · simp only [Act.put, List.setIfInBounds_toArray, List.set_cons_zero, List.set_cons_succ]; rfl
          refine seq_take (v := ?_) (a' := ?_) (some 24) rfl rfl (by rfl) ?_ ?_ ?_
          rotate_left; rotate_left
          · intro w' hS; (first | (go_simp; with_reducible rfl) | (go_simp; exact entIf _ _ _ _ _ _ _ HZ.out))
          · simp only [Act.put, List.setIfInBounds_toArray, List.set_cons_zero, List.set_cons_succ]; rfl
          refine seq_done ?_
          go_wp2_with fail
          go_roundw
          case rel => exact ⟨k + 1, by simp, by omega, Lib.hid (by rw [HX.out, HY.out, HT.out, HPR.out]), bl_next HB0.out hB⟩
          case measure => simp [intOf]; omega
        · have HZ : Hid ((decide (p.1 = r.1) && (decide (whi p.2 = whi r.2) && decide (wlo p.2 = wlo r.2))) = false) := Lib.hid (ent_ne hpr)
          have HPR := Lib.hid (HNE.out hpr)
          clear hpr
          have hB := hB.drew
          refine region_seq (fun w' => Below V.heap.size V w') [(0, true), (1, true), (2, true), (3, true), (4, true), (5, true), (6, true), (7, true), (8, true)] (by kernel_rfl) (by kernel_rfl) (fun _ _ _ _ h => h) hB ?_
          try generalize World.drew _ = wS at hB ⊢
          refine seq_take (v := ?_) (a' := ?_) (some 16) rfl rfl (by rfl) ?_ ?_ ?_
          rotate_left; rotate_left
          · intro w' hS; go_simp; with_reducible rfl
          · simp only [Act.put, List.setIfInBounds_toArray, List.set_cons_zero, List.set_cons_succ]; rfl
          refine seq_take (v := ?_) (a' := ?_) (some 17) rfl rfl (by rfl) ?_ ?_ ?_
          rotate_left; rotate_left
          · intro w' hS; go_simp; with_reducible rfl
          · simp only [Act.put, List.setIfInBounds_toArray, List.set_cons_zero, List.set_cons_succ]; rfl
          refine seq_take (v := ?_) (a' := ?_) (some 18) rfl rfl (by rfl) ?_ ?_ ?_
          rotate_left; rotate_left
          · intro w' hS; go_simp; with_reducible rfl
          · simp only [Act.put, List.setIfInBounds_toArray, List.set_cons_zero, List.set_cons_succ]; rfl
          refine seq_take (v := ?_) (a' := ?_) (some 19) rfl rfl (by rfl) ?_ ?_ ?_
          rotate_left; rotate_left
          · intro w' hS; have p0 := cb hS q0; have s0 := cb hS r0; have p1 := cb hS q1; have s1 := cb hS r1; have p2 := cb hS q2; have s2 := cb hS r2; go_simp; with_reducible rfl
          · simp only [Act.put, List.setIfInBounds_toArray, List.set_cons_zero, List.set_cons_succ]; rfl
          refine seq_take (v := ?_) (a' := ?_) (some 20) rfl rfl (by rfl) ?_ ?_ ?_
          rotate_left; rotate_left
          · intro w' hS; go_simp; with_reducible rfl
          · simp only [Act.put, List.setIfInBounds_toArray, List.set_cons_zero, List.set_cons_succ]; rfl
          refine seq_take (v := ?_) (a' := ?_) (some 21) rfl rfl (by rfl) ?_ ?_ ?_
          rotate_left; rotate_left
          · intro w' hS; go_simp; with_reducible rfl
          · simp only [Act.put, List.setIfInBounds_toArray, List.set_cons_zero, List.set_cons_succ]; rfl
          refine seq_take (v := ?_) (a' := ?_) (some 22) rfl rfl (by rfl) ?_ ?_ ?_
          rotate_left; rotate_left
          · intro w' hS; go_simp; with_reducible rfl
          · simp only [Act.put, List.setIfInBounds_toArray, List.set_cons_zero, List.set_cons_succ]; rfl
          refine seq_take (v := ?_) (a' := ?_) (some 23) rfl rfl (by rfl) ?_ ?_ ?_
          rotate_left; rotate_left
          · intro w' hS; have p0 := cb hS q0; have s0 := cb hS r0; have p1 := cb hS q1; have s1 := cb hS r1; have p2 := cb hS q2; have s2 := cb hS r2; go_simp; with_reducible rfl
          · simp only [Act.put, List.setIfInBounds_toArray, List.set_cons_zero, List.set_cons_succ]; rfl
          refine seq_take (v := ?_) (a' := ?_) (some 24) rfl rfl (by rfl) ?_ ?_ ?_
          rotate_left; rotate_left
          · intro w' hS; (first | (go_simp; with_reducible rfl) | (go_simp; exact entIf _ _ _ _ _ _ _ HZ.out))
          · simp only [Act.put, List.setIfInBounds_toArray, List.set_cons_zero, List.set_cons_succ]; rfl
          refine seq_done ?_
          go_wp2_with fail
          go_ret
          exact ⟨ret_bool (by rw [decide_eq_false HPR.out]), bl_next HB0.out hB⟩
      · obtain rfl : k = m.length := by omega
        go_wp2_with fail
        go_ret
        exact ⟨ret_bool (by rw [decide_eq_true]; have := HT.out; rw [List.take_length, ← HL.out, List.take_length] at this; exact this), hB⟩
  · have hlm : ¬ (l.length = m.length) := hlen
    have HNE := Lib.hid (show l ≠ m from fun e => hlen (by rw [e]))
    clear hlen
    go_enter Try.func52, Try.ntmps52
    go_wp2_with fail
    go_ret
    exact ⟨ret_bool (by rw [decide_eq_false HNE.out]), hB⟩
set_option maxRecDepth 100000 in
set_option maxHeartbeats 8000000 in
theorem req_calls (w : World) {u v : Value} {l m : Res} (hu : ResS w u l) (hv : ResS w v m) (hl : l.length ≤ 1000000) (hm : m.length ≤ 1000000) :
    Calls Try.prog 47 #[u, v] w fun e w' => e = .returned (.bool (decide (l = m))) ∧ Below w.heap.size w w' := by
  have hB := Below.refl w.heap.size w
  have HU := Lib.hid hu
  have HV := Lib.hid hv
  obtain ⟨au, cu, rfl⟩ := hu.form
  obtain ⟨av, cv, rfl⟩ := hv.form
  clear hu hv
  by_cases hlen : l.length = m.length
  · have HL := Lib.hid hlen
    rw [hlen] at hl HU ⊢
    have HLM := Lib.hid (show ∀ j (h1 : j < m.length), j < l.length from fun j h => by omega)
    clear hlen
    go_enter Try.func47, Try.ntmps47
    go_wp2_with fail
    go_loopw [13] (fun i wr => ∃ k : Nat, i = .int .i64 k ∧ k ≤ m.length ∧ Hid (l.take k = m.take k) ∧ Below w.heap.size w wr) (fun i _ => m.length - (intOf i).toNat)
    case atStart => exact ⟨0, rfl, Nat.zero_le _, Lib.hid rfl, hB⟩
    case round =>
      clear hB
      obtain ⟨k, rfl, hk, HT, hB⟩ := hrel
      by_cases hkl : k < m.length
      · have hkI : (k : Int) < m.length := by omega
        have hk2 := HLM.out k hkl
        obtain ⟨b1, o1, d1, he1, q0, q1, hq⟩ := HU.out.at' hk2
        obtain ⟨b2, o2, d2, he2, r0, r1, hr⟩ := HV.out.at' hkl
        rw [HL.out] at he1
        cases he1
        cases he2
        clear hq hr
        have q0 := cb hB q0; have r0 := cb hB r0
        have q1 := cb hB q1; have r1 := cb hB r1
        have HX := Lib.hid (List.take_succ_eq_append_getElem hk2)
        have HY := Lib.hid (List.take_succ_eq_append_getElem hkl)
        have HNE := Lib.hid (show l[k]'hk2 ≠ m[k]'hkl → l ≠ m from fun h e => h (by subst e; rfl))
        obtain ⟨p, hp⟩ : ∃ p, l[k]'hk2 = p := ⟨_, rfl⟩
        obtain ⟨r, hr⟩ : ∃ r, m[k]'hkl = r := ⟨_, rfl⟩
        rw [hp] at q0 q1 HX HNE
        rw [hr] at r0 r1 HY HNE
        clear hp hr
        obtain ⟨V, rfl⟩ : ∃ V : World, V = wr := ⟨_, rfl⟩
        have HB0 := Lib.hid hB
        clear hB
        have hB := Below.refl V.heap.size V
        go_upto_region 6 with fail
        by_cases hpr : p = r
        · have HZ : Hid ((decide (p.1 = r.1) && decide (p.2 = r.2)) = true) := Lib.hid (by rw [hpr]; simp)
          have HPR := Lib.hid hpr
          clear hpr
          have hB := hB.drew
          refine region_seq (fun w' => Below V.heap.size V w') [(0, true), (1, true), (2, true), (3, true), (4, true), (5, true), (6, true), (7, true), (8, true)] (by kernel_rfl) (by kernel_rfl) (fun _ _ _ _ h => h) hB ?_
          try generalize World.drew _ = wS at hB ⊢
          refine seq_take (v := ?_) (a' := ?_) (some 16) rfl rfl (by rfl) ?_ ?_ ?_
          rotate_left; rotate_left
          · intro w' hS; go_simp; with_reducible rfl
          · simp only [Act.put, List.setIfInBounds_toArray, List.set_cons_zero, List.set_cons_succ]; rfl
          refine seq_take (v := ?_) (a' := ?_) (some 17) rfl rfl (by rfl) ?_ ?_ ?_
          rotate_left; rotate_left
          · intro w' hS; go_simp; with_reducible rfl
          · simp only [Act.put, List.setIfInBounds_toArray, List.set_cons_zero, List.set_cons_succ]; rfl
          refine seq_take (v := ?_) (a' := ?_) (some 18) rfl rfl (by rfl) ?_ ?_ ?_
          rotate_left; rotate_left
          · intro w' hS; go_simp; with_reducible rfl
          · simp only [Act.put, List.setIfInBounds_toArray, List.set_cons_zero, List.set_cons_succ]; rfl
          refine seq_take (v := ?_) (a' := ?_) (some 19) rfl rfl (by rfl) ?_ ?_ ?_
          rotate_left; rotate_left
          · intro w' hS; have p0 := cb hS q0; have s0 := cb hS r0; have p1 := cb hS q1; have s1 := cb hS r1; go_simp; with_reducible rfl
          · simp only [Act.put, List.setIfInBounds_toArray, List.set_cons_zero, List.set_cons_succ]; rfl
          refine seq_take (v := ?_) (a' := ?_) (some 20) rfl rfl (by rfl) ?_ ?_ ?_
          rotate_left; rotate_left
          · intro w' hS; go_simp; with_reducible rfl
          · simp only [Act.put, List.setIfInBounds_toArray, List.set_cons_zero, List.set_cons_succ]; rfl
          refine seq_take (v := ?_) (a' := ?_) (some 21) rfl rfl (by rfl) ?_ ?_ ?_
          rotate_left; rotate_left
          · intro w' hS; go_simp; with_reducible rfl
          · simp only [Act.put, List.setIfInBounds_toArray, List.set_cons_zero, List.set_cons_succ]; rfl
          refine seq_take (v := ?_) (a' := ?_) (some 22) rfl rfl (by rfl) ?_ ?_ ?_
          rotate_left; rotate_left
          · intro w' hS; go_simp; with_reducible rfl
          · simp only [Act.put, List.setIfInBounds_toArray, List.set_cons_zero, List.set_cons_succ]; rfl
          refine seq_take (v := ?_) (a' := ?_) (some 23) rfl rfl (by rfl) ?_ ?_ ?_
          rotate_left; rotate_left
          · intro w' hS; have p0 := cb hS q0; have s0 := cb hS r0; have p1 := cb hS q1; have s1 := cb hS r1; go_simp; with_reducible rfl
          · simp only [Act.put, List.setIfInBounds_toArray, List.set_cons_zero, List.set_cons_succ]; rfl
          refine seq_take (v := ?_) (a' := ?_) (some 24) rfl rfl (by rfl) ?_ ?_ ?_
          rotate_left; rotate_left
          · intro w' hS; (first | (go_simp; with_reducible rfl) | (go_simp; exact resIf _ _ _ _ _ HZ.out))
          · simp only [Act.put, List.setIfInBounds_toArray, List.set_cons_zero, List.set_cons_succ]; rfl
          refine seq_done ?_
          go_wp2_with fail
          go_roundw
          case rel => exact ⟨k + 1, by simp, by omega, Lib.hid (by rw [HX.out, HY.out, HT.out, HPR.out]), bl_next HB0.out hB⟩
          case measure => simp [intOf]; omega
        · have HZ : Hid ((decide (p.1 = r.1) && decide (p.2 = r.2)) = false) := Lib.hid (res_ne hpr)
          have HPR := Lib.hid (HNE.out hpr)
          clear hpr
          have hB := hB.drew
          refine region_seq (fun w' => Below V.heap.size V w') [(0, true), (1, true), (2, true), (3, true), (4, true), (5, true), (6, true), (7, true), (8, true)] (by kernel_rfl) (by kernel_rfl) (fun _ _ _ _ h => h) hB ?_
          try generalize World.drew _ = wS at hB ⊢
          refine seq_take (v := ?_) (a' := ?_) (some 16) rfl rfl (by rfl) ?_ ?_ ?_
          rotate_left; rotate_left
          · intro w' hS; go_simp; with_reducible rfl
          · simp only [Act.put, List.setIfInBounds_toArray, List.set_cons_zero, List.set_cons_succ]; rfl
          refine seq_take (v := ?_) (a' := ?_) (some 17) rfl rfl (by rfl) ?_ ?_ ?_
          rotate_left; rotate_left
          · intro w' hS; go_simp; with_reducible rfl
          · simp only [Act.put, List.setIfInBounds_toArray, List.set_cons_zero, List.set_cons_succ]; rfl
          refine seq_take (v := ?_) (a' := ?_) (some 18) rfl rfl (by rfl) ?_ ?_ ?_
          rotate_left; rotate_left
          · intro w' hS; go_simp; with_reducible rfl
          · simp only [Act.put, List.setIfInBounds_toArray, List.set_cons_zero, List.set_cons_succ]; rfl
          refine seq_take (v := ?_) (a' := ?_) (some 19) rfl rfl (by rfl) ?_ ?_ ?_
          rotate_left; rotate_left
          · intro w' hS; have p0 := cb hS q0; have s0 := cb hS r0; have p1 := cb hS q1; have s1 := cb hS r1; go_simp; with_reducible rfl
          · simp only [Act.put, List.setIfInBounds_toArray, List.set_cons_zero, List.set_cons_succ]; rfl
          refine seq_take (v := ?_) (a' := ?_) (some 20) rfl rfl (by rfl) ?_ ?_ ?_
          rotate_left; rotate_left
          · intro w' hS; go_simp; with_reducible rfl
          · simp only [Act.put, List.setIfInBounds_toArray, List.set_cons_zero, List.set_cons_succ]; rfl
          refine seq_take (v := ?_) (a' := ?_) (some 21) rfl rfl (by rfl) ?_ ?_ ?_
          rotate_left; rotate_left
          · intro w' hS; go_simp; with_reducible rfl
          · simp only [Act.put, List.setIfInBounds_toArray, List.set_cons_zero, List.set_cons_succ]; rfl
          refine seq_take (v := ?_) (a' := ?_) (some 22) rfl rfl (by rfl) ?_ ?_ ?_
          rotate_left; rotate_left
          · intro w' hS; go_simp; with_reducible rfl
          · simp only [Act.put, List.setIfInBounds_toArray, List.set_cons_zero, List.set_cons_succ]; rfl
          refine seq_take (v := ?_) (a' := ?_) (some 23) rfl rfl (by rfl) ?_ ?_ ?_
          rotate_left; rotate_left
          · intro w' hS; have p0 := cb hS q0; have s0 := cb hS r0; have p1 := cb hS q1; have s1 := cb hS r1; go_simp; with_reducible rfl
          · simp only [Act.put, List.setIfInBounds_toArray, List.set_cons_zero, List.set_cons_succ]; rfl
          refine seq_take (v := ?_) (a' := ?_) (some 24) rfl rfl (by rfl) ?_ ?_ ?_
          rotate_left; rotate_left
          · intro w' hS; (first | (go_simp; with_reducible rfl) | (go_simp; exact resIf _ _ _ _ _ HZ.out))
          · simp only [Act.put, List.setIfInBounds_toArray, List.set_cons_zero, List.set_cons_succ]; rfl
          refine seq_done ?_
          go_wp2_with fail
          go_ret
          exact ⟨ret_bool (by rw [decide_eq_false HPR.out]), bl_next HB0.out hB⟩
      · obtain rfl : k = m.length := by omega
        go_wp2_with fail
        go_ret
        exact ⟨ret_bool (by rw [decide_eq_true]; have := HT.out; rw [List.take_length, ← HL.out, List.take_length] at this; exact this), hB⟩
  · have hlm : ¬ (l.length = m.length) := hlen
    have HNE := Lib.hid (show l ≠ m from fun e => hlen (by rw [e]))
    clear hlen
    go_enter Try.func47, Try.ntmps47
    go_wp2_with fail
    go_ret
    exact ⟨ret_bool (by rw [decide_eq_false HNE.out]), hB⟩
set_option maxRecDepth 100000 in
set_option maxHeartbeats 8000000 in
theorem rvsame_calls (w : World) {u v : Value} {l m : Vec} (hu : VecS w u l) (hv : VecS w v m) (hl : l.length ≤ 1000000) (hm : m.length ≤ 1000000) :
    Calls Try.prog 11 #[u, v] w fun e w' => e = .returned (.bool (decide (l = m))) ∧ Below w.heap.size w w' := by
  have hB := Below.refl w.heap.size w
  have HU := Lib.hid hu
  have HV := Lib.hid hv
  obtain ⟨au, cu, rfl⟩ := hu.form
  obtain ⟨av, cv, rfl⟩ := hv.form
  clear hu hv
  by_cases hlen : l.length = m.length
  · have HL := Lib.hid hlen
    rw [hlen] at hl HU ⊢
    have HLM := Lib.hid (show ∀ j (h1 : j < m.length), j < l.length from fun j h => by omega)
    clear hlen
    go_enter Try.func11, Try.ntmps11
    go_wp2_with fail
    go_loopw [5] (fun i wr => ∃ k : Nat, i = .int .i64 k ∧ k ≤ m.length ∧ Hid (l.take k = m.take k) ∧ Below w.heap.size w wr) (fun i _ => m.length - (intOf i).toNat)
    case atStart => exact ⟨0, rfl, Nat.zero_le _, Lib.hid rfl, hB⟩
    case round =>
      clear hB
      obtain ⟨k, rfl, hk, HT, hB⟩ := hrel
      by_cases hkl : k < m.length
      · have hkI : (k : Int) < m.length := by omega
        have hk2 := HLM.out k hkl
        obtain ⟨b1, o1, d1, he1, q0, q1, q2, hq⟩ := HU.out.at' hk2
        obtain ⟨b2, o2, d2, he2, r0, r1, r2, hr⟩ := HV.out.at' hkl
        rw [HL.out] at he1
        cases he1
        cases he2
        clear hq hr
        have q0 := cb hB q0; have r0 := cb hB r0
        have q1 := cb hB q1; have r1 := cb hB r1
        have q2 := cb hB q2; have r2 := cb hB r2
        have HX := Lib.hid (List.take_succ_eq_append_getElem hk2)
        have HY := Lib.hid (List.take_succ_eq_append_getElem hkl)
        have HNE := Lib.hid (show l[k]'hk2 ≠ m[k]'hkl → l ≠ m from fun h e => h (by subst e; rfl))
        obtain ⟨p, hp⟩ : ∃ p, l[k]'hk2 = p := ⟨_, rfl⟩
        obtain ⟨r, hr⟩ : ∃ r, m[k]'hkl = r := ⟨_, rfl⟩
        rw [hp] at q0 q1 q2 HX HNE
        rw [hr] at r0 r1 r2 HY HNE
        clear hp hr
        obtain ⟨V, rfl⟩ : ∃ V : World, V = wr := ⟨_, rfl⟩
        have HB0 := Lib.hid hB
        clear hB
        have hB := Below.refl V.heap.size V
        go_upto_region 6 with fail
        by_cases hpr : p = r
        · have HZ : Hid ((decide (p.1 = r.1) && (decide (whi p.2 = whi r.2) && decide (wlo p.2 = wlo r.2))) = true) := Lib.hid (by rw [hpr]; simp)
          have HPR := Lib.hid hpr
          clear hpr
          have hB := hB.drew
          refine region_seq (fun w' => Below V.heap.size V w') [(0, true), (1, true), (2, true), (3, true), (4, true), (5, true), (6, true), (7, true), (8, true)] (by kernel_rfl) (by kernel_rfl) (fun _ _ _ _ h => h) hB ?_
          try generalize World.drew _ = wS at hB ⊢
          refine seq_take (v := ?_) (a' := ?_) (some 17) rfl rfl (by rfl) ?_ ?_ ?_
          rotate_left; rotate_left
          · intro w' hS; go_simp; with_reducible rfl
          · simp only [Act.put, List.setIfInBounds_toArray, List.set_cons_zero, List.set_cons_succ]; rfl
          refine seq_take (v := ?_) (a' := ?_) (some 18) rfl rfl (by rfl) ?_ ?_ ?_
          rotate_left; rotate_left
          · intro w' hS; go_simp; with_reducible rfl
          · simp only [Act.put, List.setIfInBounds_toArray, List.set_cons_zero, List.set_cons_succ]; rfl
          refine seq_take (v := ?_) (a' := ?_) (some 19) rfl rfl (by rfl) ?_ ?_ ?_
          rotate_left; rotate_left
          · intro w' hS; go_simp; with_reducible rfl
          · simp only [Act.put, List.setIfInBounds_toArray, List.set_cons_zero, List.set_cons_succ]; rfl
          refine seq_take (v := ?_) (a' := ?_) (some 20) rfl rfl (by rfl) ?_ ?_ ?_
          rotate_left; rotate_left
          · intro w' hS; have p0 := cb hS q0; have s0 := cb hS r0; have p1 := cb hS q1; have s1 := cb hS r1; have p2 := cb hS q2; have s2 := cb hS r2; go_simp; with_reducible rfl
          · simp only [Act.put, List.setIfInBounds_toArray, List.set_cons_zero, List.set_cons_succ]; rfl
          refine seq_take (v := ?_) (a' := ?_) (some 21) rfl rfl (by rfl) ?_ ?_ ?_
          rotate_left; rotate_left
          · intro w' hS; go_simp; with_reducible rfl
          · simp only [Act.put, List.setIfInBounds_toArray, List.set_cons_zero, List.set_cons_succ]; rfl
          refine seq_take (v := ?_) (a' := ?_) (some 22) rfl rfl (by rfl) ?_ ?_ ?_
          rotate_left; rotate_left
          · intro w' hS; go_simp; with_reducible rfl
          · simp only [Act.put, List.setIfInBounds_toArray, List.set_cons_zero, List.set_cons_succ]; rfl
          refine seq_take (v := ?_) (a' := ?_) (some 23) rfl rfl (by rfl) ?_ ?_ ?_
          rotate_left; rotate_left
          · intro w' hS; go_simp; with_reducible rfl
          · simp only [Act.put, List.setIfInBounds_toArray, List.set_cons_zero, List.set_cons_succ]; rfl
          refine seq_take (v := ?_) (a' := ?_) (some 24) rfl rfl (by rfl) ?_ ?_ ?_
          rotate_left; rotate_left
          · intro w' hS; have p0 := cb hS q0; have s0 := cb hS r0; have p1 := cb hS q1; have s1 := cb hS r1; have p2 := cb hS q2; have s2 := cb hS r2; go_simp; with_reducible rfl
          · simp only [Act.put, List.setIfInBounds_toArray, List.set_cons_zero, List.set_cons_succ]; rfl
          refine seq_take (v := ?_) (a' := ?_) (some 25) rfl rfl (by rfl) ?_ ?_ ?_
          rotate_left; rotate_left
          · intro w' hS; (first | (go_simp; with_reducible rfl) | (go_simp; exact entIf _ _ _ _ _ _ _ HZ.out))
          · simp only [Act.put, List.setIfInBounds_toArray, List.set_cons_zero, List.set_cons_succ]; rfl
          refine seq_done ?_
          go_wp2_with fail
          go_roundw
          case rel => exact ⟨k + 1, by simp, by omega, Lib.hid (by rw [HX.out, HY.out, HT.out, HPR.out]), bl_next HB0.out hB⟩
          case measure => simp [intOf]; omega
        · have HZ : Hid ((decide (p.1 = r.1) && (decide (whi p.2 = whi r.2) && decide (wlo p.2 = wlo r.2))) = false) := Lib.hid (ent_ne hpr)
          have HPR := Lib.hid (HNE.out hpr)
          clear hpr
          have hB := hB.drew
          refine region_seq (fun w' => Below V.heap.size V w') [(0, true), (1, true), (2, true), (3, true), (4, true), (5, true), (6, true), (7, true), (8, true)] (by kernel_rfl) (by kernel_rfl) (fun _ _ _ _ h => h) hB ?_
          try generalize World.drew _ = wS at hB ⊢
          refine seq_take (v := ?_) (a' := ?_) (some 17) rfl rfl (by rfl) ?_ ?_ ?_
          rotate_left; rotate_left
          · intro w' hS; go_simp; with_reducible rfl
          · simp only [Act.put, List.setIfInBounds_toArray, List.set_cons_zero, List.set_cons_succ]; rfl
          refine seq_take (v := ?_) (a' := ?_) (some 18) rfl rfl (by rfl) ?_ ?_ ?_
          rotate_left; rotate_left
          · intro w' hS; go_simp; with_reducible rfl
          · simp only [Act.put, List.setIfInBounds_toArray, List.set_cons_zero, List.set_cons_succ]; rfl
          refine seq_take (v := ?_) (a' := ?_) (some 19) rfl rfl (by rfl) ?_ ?_ ?_
          rotate_left; rotate_left
          · intro w' hS; go_simp; with_reducible rfl
          · simp only [Act.put, List.setIfInBounds_toArray, List.set_cons_zero, List.set_cons_succ]; rfl
          refine seq_take (v := ?_) (a' := ?_) (some 20) rfl rfl (by rfl) ?_ ?_ ?_
          rotate_left; rotate_left
          · intro w' hS; have p0 := cb hS q0; have s0 := cb hS r0; have p1 := cb hS q1; have s1 := cb hS r1; have p2 := cb hS q2; have s2 := cb hS r2; go_simp; with_reducible rfl
          · simp only [Act.put, List.setIfInBounds_toArray, List.set_cons_zero, List.set_cons_succ]; rfl
          refine seq_take (v := ?_) (a' := ?_) (some 21) rfl rfl (by rfl) ?_ ?_ ?_
          rotate_left; rotate_left
          · intro w' hS; go_simp; with_reducible rfl
          · simp only [Act.put, List.setIfInBounds_toArray, List.set_cons_zero, List.set_cons_succ]; rfl
          refine seq_take (v := ?_) (a' := ?_) (some 22) rfl rfl (by rfl) ?_ ?_ ?_
          rotate_left; rotate_left
          · intro w' hS; go_simp; with_reducible rfl
          · simp only [Act.put, List.setIfInBounds_toArray, List.set_cons_zero, List.set_cons_succ]; rfl
          refine seq_take (v := ?_) (a' := ?_) (some 23) rfl rfl (by rfl) ?_ ?_ ?_
          rotate_left; rotate_left
          · intro w' hS; go_simp; with_reducible rfl
          · simp only [Act.put, List.setIfInBounds_toArray, List.set_cons_zero, List.set_cons_succ]; rfl
          refine seq_take (v := ?_) (a' := ?_) (some 24) rfl rfl (by rfl) ?_ ?_ ?_
          rotate_left; rotate_left
          · intro w' hS; have p0 := cb hS q0; have s0 := cb hS r0; have p1 := cb hS q1; have s1 := cb hS r1; have p2 := cb hS q2; have s2 := cb hS r2; go_simp; with_reducible rfl
          · simp only [Act.put, List.setIfInBounds_toArray, List.set_cons_zero, List.set_cons_succ]; rfl
          refine seq_take (v := ?_) (a' := ?_) (some 25) rfl rfl (by rfl) ?_ ?_ ?_
          rotate_left; rotate_left
          · intro w' hS; (first | (go_simp; with_reducible rfl) | (go_simp; exact entIf _ _ _ _ _ _ _ HZ.out))
          · simp only [Act.put, List.setIfInBounds_toArray, List.set_cons_zero, List.set_cons_succ]; rfl
          refine seq_done ?_
          go_wp2_with fail
          go_ret
          exact ⟨ret_bool (by rw [decide_eq_false HPR.out]), bl_next HB0.out hB⟩
      · obtain rfl : k = m.length := by omega
        go_wp2_with fail
        go_ret
        exact ⟨ret_bool (by rw [decide_eq_true]; have := HT.out; rw [List.take_length, ← HL.out, List.take_length] at this; exact this), hB⟩
  · have hlm : ¬ (l.length = m.length) := hlen
    have HNE := Lib.hid (show l ≠ m from fun e => hlen (by rw [e]))
    clear hlen
    go_enter Try.func11, Try.ntmps11
    go_wp2_with fail
    go_ret
    exact ⟨ret_bool (by rw [decide_eq_false HNE.out]), hB⟩
set_option maxRecDepth 100000 in
set_option maxHeartbeats 8000000 in
theorem rres_calls (w : World) {u v : Value} {l m : Res} (hu : ResS w u l) (hv : ResS w v m) (hl : l.length ≤ 1000000) (hm : m.length ≤ 1000000) :
    Calls Try.prog 48 #[u, v] w fun e w' => e = .returned (.bool (decide (l = m))) ∧ Below w.heap.size w w' := by
  have hB := Below.refl w.heap.size w
  have HU := Lib.hid hu
  have HV := Lib.hid hv
  obtain ⟨au, cu, rfl⟩ := hu.form
  obtain ⟨av, cv, rfl⟩ := hv.form
  clear hu hv
  by_cases hlen : l.length = m.length
  · have HL := Lib.hid hlen
    rw [hlen] at hl HU ⊢
    have HLM := Lib.hid (show ∀ j (h1 : j < m.length), j < l.length from fun j h => by omega)
    clear hlen
    go_enter Try.func48, Try.ntmps48
    go_wp2_with fail
    go_loopw [5] (fun i wr => ∃ k : Nat, i = .int .i64 k ∧ k ≤ m.length ∧ Hid (l.take k = m.take k) ∧ Below w.heap.size w wr) (fun i _ => m.length - (intOf i).toNat)
    case atStart => exact ⟨0, rfl, Nat.zero_le _, Lib.hid rfl, hB⟩
    case round =>
      clear hB
      obtain ⟨k, rfl, hk, HT, hB⟩ := hrel
      by_cases hkl : k < m.length
      · have hkI : (k : Int) < m.length := by omega
        have hk2 := HLM.out k hkl
        obtain ⟨b1, o1, d1, he1, q0, q1, hq⟩ := HU.out.at' hk2
        obtain ⟨b2, o2, d2, he2, r0, r1, hr⟩ := HV.out.at' hkl
        rw [HL.out] at he1
        cases he1
        cases he2
        clear hq hr
        have q0 := cb hB q0; have r0 := cb hB r0
        have q1 := cb hB q1; have r1 := cb hB r1
        have HX := Lib.hid (List.take_succ_eq_append_getElem hk2)
        have HY := Lib.hid (List.take_succ_eq_append_getElem hkl)
        have HNE := Lib.hid (show l[k]'hk2 ≠ m[k]'hkl → l ≠ m from fun h e => h (by subst e; rfl))
        obtain ⟨p, hp⟩ : ∃ p, l[k]'hk2 = p := ⟨_, rfl⟩
        obtain ⟨r, hr⟩ : ∃ r, m[k]'hkl = r := ⟨_, rfl⟩
        rw [hp] at q0 q1 HX HNE
        rw [hr] at r0 r1 HY HNE
        clear hp hr
        obtain ⟨V, rfl⟩ : ∃ V : World, V = wr := ⟨_, rfl⟩
        have HB0 := Lib.hid hB
        clear hB
        have hB := Below.refl V.heap.size V
        go_upto_region 6 with fail
        by_cases hpr : p = r
        · have HZ : Hid ((decide (p.1 = r.1) && decide (p.2 = r.2)) = true) := Lib.hid (by rw [hpr]; simp)
          have HPR := Lib.hid hpr
          clear hpr
          have hB := hB.drew
          refine region_seq (fun w' => Below V.heap.size V w') [(0, true), (1, true), (2, true), (3, true), (4, true), (5, true), (6, true), (7, true), (8, true)] (by kernel_rfl) (by kernel_rfl) (fun _ _ _ _ h => h) hB ?_
          try generalize World.drew _ = wS at hB ⊢
          refine seq_take (v := ?_) (a' := ?_) (some 17) rfl rfl (by rfl) ?_ ?_ ?_
          rotate_left; rotate_left
          · intro w' hS; go_simp; with_reducible rfl
          · simp only [Act.put, List.setIfInBounds_toArray, List.set_cons_zero, List.set_cons_succ]; rfl
          refine seq_take (v := ?_) (a' := ?_) (some 18) rfl rfl (by rfl) ?_ ?_ ?_
          rotate_left; rotate_left
          · intro w' hS; go_simp; with_reducible rfl
          · simp only [Act.put, List.setIfInBounds_toArray, List.set_cons_zero, List.set_cons_succ]; rfl
          refine seq_take (v := ?_) (a' := ?_) (some 19) rfl rfl (by rfl) ?_ ?_ ?_
          rotate_left; rotate_left
          · intro w' hS; go_simp; with_reducible rfl
          · simp only [Act.put, List.setIfInBounds_toArray, List.set_cons_zero, List.set_cons_succ]; rfl
          refine seq_take (v := ?_) (a' := ?_) (some 20) rfl rfl (by rfl) ?_ ?_ ?_
          rotate_left; rotate_left
          · intro w' hS; have p0 := cb hS q0; have s0 := cb hS r0; have p1 := cb hS q1; have s1 := cb hS r1; go_simp; with_reducible rfl
          · simp only [Act.put, List.setIfInBounds_toArray, List.set_cons_zero, List.set_cons_succ]; rfl
          refine seq_take (v := ?_) (a' := ?_) (some 21) rfl rfl (by rfl) ?_ ?_ ?_
          rotate_left; rotate_left
          · intro w' hS; go_simp; with_reducible rfl
          · simp only [Act.put, List.setIfInBounds_toArray, List.set_cons_zero, List.set_cons_succ]; rfl
          refine seq_take (v := ?_) (a' := ?_) (some 22) rfl rfl (by rfl) ?_ ?_ ?_
          rotate_left; rotate_left
          · intro w' hS; go_simp; with_reducible rfl
          · simp only [Act.put, List.setIfInBounds_toArray, List.set_cons_zero, List.set_cons_succ]; rfl
          refine seq_take (v := ?_) (a' := ?_) (some 23) rfl rfl (by rfl) ?_ ?_ ?_
          rotate_left; rotate_left
          · intro w' hS; go_simp; with_reducible rfl
          · simp only [Act.put, List.setIfInBounds_toArray, List.set_cons_zero, List.set_cons_succ]; rfl
          refine seq_take (v := ?_) (a' := ?_) (some 24) rfl rfl (by rfl) ?_ ?_ ?_
          rotate_left; rotate_left
          · intro w' hS; have p0 := cb hS q0; have s0 := cb hS r0; have p1 := cb hS q1; have s1 := cb hS r1; go_simp; with_reducible rfl
          · simp only [Act.put, List.setIfInBounds_toArray, List.set_cons_zero, List.set_cons_succ]; rfl
          refine seq_take (v := ?_) (a' := ?_) (some 25) rfl rfl (by rfl) ?_ ?_ ?_
          rotate_left; rotate_left
          · intro w' hS; (first | (go_simp; with_reducible rfl) | (go_simp; exact resIf _ _ _ _ _ HZ.out))
          · simp only [Act.put, List.setIfInBounds_toArray, List.set_cons_zero, List.set_cons_succ]; rfl
          refine seq_done ?_
          go_wp2_with fail
          go_roundw
          case rel => exact ⟨k + 1, by simp, by omega, Lib.hid (by rw [HX.out, HY.out, HT.out, HPR.out]), bl_next HB0.out hB⟩
          case measure => simp [intOf]; omega
        · have HZ : Hid ((decide (p.1 = r.1) && decide (p.2 = r.2)) = false) := Lib.hid (res_ne hpr)
          have HPR := Lib.hid (HNE.out hpr)
          clear hpr
          have hB := hB.drew
          refine region_seq (fun w' => Below V.heap.size V w') [(0, true), (1, true), (2, true), (3, true), (4, true), (5, true), (6, true), (7, true), (8, true)] (by kernel_rfl) (by kernel_rfl) (fun _ _ _ _ h => h) hB ?_
          try generalize World.drew _ = wS at hB ⊢
          refine seq_take (v := ?_) (a' := ?_) (some 17) rfl rfl (by rfl) ?_ ?_ ?_
          rotate_left; rotate_left
          · intro w' hS; go_simp; with_reducible rfl
          · simp only [Act.put, List.setIfInBounds_toArray, List.set_cons_zero, List.set_cons_succ]; rfl
          refine seq_take (v := ?_) (a' := ?_) (some 18) rfl rfl (by rfl) ?_ ?_ ?_
          rotate_left; rotate_left
          · intro w' hS; go_simp; with_reducible rfl
          · simp only [Act.put, List.setIfInBounds_toArray, List.set_cons_zero, List.set_cons_succ]; rfl
          refine seq_take (v := ?_) (a' := ?_) (some 19) rfl rfl (by rfl) ?_ ?_ ?_
          rotate_left; rotate_left
          · intro w' hS; go_simp; with_reducible rfl
          · simp only [Act.put, List.setIfInBounds_toArray, List.set_cons_zero, List.set_cons_succ]; rfl
          refine seq_take (v := ?_) (a' := ?_) (some 20) rfl rfl (by rfl) ?_ ?_ ?_
          rotate_left; rotate_left
          · intro w' hS; have p0 := cb hS q0; have s0 := cb hS r0; have p1 := cb hS q1; have s1 := cb hS r1; go_simp; with_reducible rfl
          · simp only [Act.put, List.setIfInBounds_toArray, List.set_cons_zero, List.set_cons_succ]; rfl
          refine seq_take (v := ?_) (a' := ?_) (some 21) rfl rfl (by rfl) ?_ ?_ ?_
          rotate_left; rotate_left
          · intro w' hS; go_simp; with_reducible rfl
          · simp only [Act.put, List.setIfInBounds_toArray, List.set_cons_zero, List.set_cons_succ]; rfl
          refine seq_take (v := ?_) (a' := ?_) (some 22) rfl rfl (by rfl) ?_ ?_ ?_
          rotate_left; rotate_left
          · intro w' hS; go_simp; with_reducible rfl
          · simp only [Act.put, List.setIfInBounds_toArray, List.set_cons_zero, List.set_cons_succ]; rfl
          refine seq_take (v := ?_) (a' := ?_) (some 23) rfl rfl (by rfl) ?_ ?_ ?_
          rotate_left; rotate_left
          · intro w' hS; go_simp; with_reducible rfl
          · simp only [Act.put, List.setIfInBounds_toArray, List.set_cons_zero, List.set_cons_succ]; rfl
          refine seq_take (v := ?_) (a' := ?_) (some 24) rfl rfl (by rfl) ?_ ?_ ?_
          rotate_left; rotate_left
          · intro w' hS; have p0 := cb hS q0; have s0 := cb hS r0; have p1 := cb hS q1; have s1 := cb hS r1; go_simp; with_reducible rfl
          · simp only [Act.put, List.setIfInBounds_toArray, List.set_cons_zero, List.set_cons_succ]; rfl
          refine seq_take (v := ?_) (a' := ?_) (some 25) rfl rfl (by rfl) ?_ ?_ ?_
          rotate_left; rotate_left
          · intro w' hS; (first | (go_simp; with_reducible rfl) | (go_simp; exact resIf _ _ _ _ _ HZ.out))
          · simp only [Act.put, List.setIfInBounds_toArray, List.set_cons_zero, List.set_cons_succ]; rfl
          refine seq_done ?_
          go_wp2_with fail
          go_ret
          exact ⟨ret_bool (by rw [decide_eq_false HPR.out]), bl_next HB0.out hB⟩
      · obtain rfl : k = m.length := by omega
        go_wp2_with fail
        go_ret
        exact ⟨ret_bool (by rw [decide_eq_true]; have := HT.out; rw [List.take_length, ← HL.out, List.take_length] at this; exact this), hB⟩
  · have hlm : ¬ (l.length = m.length) := hlen
    have HNE := Lib.hid (show l ≠ m from fun e => hlen (by rw [e]))
    clear hlen
    go_enter Try.func48, Try.ntmps48
    go_wp2_with fail
    go_ret
    exact ⟨ret_bool (by rw [decide_eq_false HNE.out]), hB⟩
end Go.Proofs.Yteomicjjaajblaa

import Derived.Test.YtdcceaafiammfaaFdq
namespace Go.Proofs.Ytdcceaafiammfaa
open Go.RowKit
set_option linter.unusedVariables false
set_option linter.unusedSimpArgs false
theorem keyIf' (a b c a' b' c' : ByteArray) (w : World) {q : Bool} (h : same6 a b c a' b' c' = q) : (if a.toList = a'.toList then if b.toList = b'.toList then if c.toList = c'.toList then Result.ok (Next.value (Value.bool true)) w else Result.ok (Next.value (Value.bool false)) w else Result.ok (Next.value (Value.bool false)) w else Result.ok (Next.value (Value.bool false)) w)
    = .ok (.value (.bool q)) w := by rw [← h]; exact keyIf a b c a' b' c' w
theorem tell_none {l : List Item} {cov j : Nat} {k : Nat} (h : (openTo l cov k).any (blkB l j) = false) (q : (sameK (itemAt l k) (itemAt l j) && decide ((itemAt l k).st = 0) && !stB l cov k) = false) : (openTo l cov (k + 1)).any (blkB l j) = false := by
  rw [openTo_succ]
  cases hs : stB l cov k with
  | true => exact h
  | false =>
    simp only [Bool.false_eq_true, if_false, List.any_append, h, Bool.false_or, List.any_cons, List.any_nil, Bool.or_false]
    rw [hs] at q
    unfold blkB
    rw [Bool.and_comm]; simpa using q
theorem tell_some {l : List Item} {cov j : Nat} {k : Nat} (hk : k < j) (h1 : sameK (itemAt l k) (itemAt l j) = true) (h2 : (itemAt l k).st = 0) (h3 : stB l cov k = false) : (openTo l cov j).any (blkB l j) = true := by
  rw [List.any_eq_true]
  exact ⟨k, List.mem_filter.2 ⟨List.mem_range.2 hk, by simp [h3]⟩, by unfold blkB; rw [h1, h2]; rfl⟩
set_option maxRecDepth 100000 in
set_option maxHeartbeats 8000000 in
theorem rtell_calls {base rb : Nat} {kv iv : Value} {l : List Item} {cov : Nat} (w : World) (h : RefAt w base rb kv iv l cov) (i : Int) (hl : l.length ≤ 1000000) :
    Calls Try.prog 59 #[.pointer (some ⟨rb, 0, none⟩), .int .i64 i] w fun e w' => e = .returned (.int .i64 (tellR l cov i).1) ∧ RefAt w' base rb kv iv (tellR l cov i).2 cov ∧ Kept (refX rb kv iv) w w' := by
  have hB := Below.refl w.heap.size w
  have H := Lib.hid h
  cases hno : noneB l i with
  | true =>
    obtain ⟨ak, ck, ai, ci, rfl, rfl⟩ := h.lens
    have c0 := blk_cell h.box 0
    have HR := Lib.hid (show tellR l cov i = (1, l) by unfold tellR; rw [hno]; rfl)
    unfold noneB at hno
    simp only [Bool.or_eq_true, decide_eq_true_eq] at hno
    clear h
    by_cases h1 : i < 0
    · go_enter Try.func59, Try.ntmps59
      clear hno
      go_wp2
      go_ret
      exact ⟨by rw [HR.out]; rfl, by rw [HR.out]; exact H.out, kept_of_below hB⟩
    · have h1' : (l.length : Int) ≤ i := by omega
      have h0' : 0 ≤ i := by omega
      clear hno
      go_enter Try.func59, Try.ntmps59
      go_wp2
      go_ret
      exact ⟨by rw [HR.out]; rfl, by rw [HR.out]; exact H.out, kept_of_below hB⟩
  | false =>
    obtain ⟨j, rfl, hj⟩ := noneB_false hno
    obtain ⟨gk, ck, gi, ci, rfl, rfl, i0, fi, j0, j1, j2⟩ := h.at' hj
    have c0 := blk_cell h.box 0
    have c1 := blk_cell h.box 1
    have HR := Lib.hid (show tellR l cov (j : Int) = if (itemAt l j).st = 2 then (6, l) else if (openTo l cov j).any (blkB l j) then (7, l) else (0, setSt l j 1) by unfold tellR; rw [hno]; rfl)
    have hjI : (j : Int) < l.length := by omega
    clear h hno
    by_cases h2 : (itemAt l j).st = 2
    · have HX := Lib.hid (show tellR l cov (j : Int) = (6, l) by rw [HR.out, if_pos h2])
      rw [h2] at i0
      clear h2
      go_enter Try.func59, Try.ntmps59
      go_wp2
      go_ret
      exact ⟨by rw [HX.out]; rfl, by rw [HX.out]; exact H.out, kept_of_below hB⟩
    · have HX := Lib.hid (show tellR l cov (j : Int) = if (openTo l cov j).any (blkB l j) then (7, l) else (0, setSt l j 1) by rw [HR.out, if_neg h2])
      have h2b : (((itemAt l j).st : Int) == 2) = false := by simp; omega
      generalize hst : (itemAt l j).st = st at i0 h2b
      clear h2 hst
      have hj0 : decide ((j : Int) < 0) = false := by simp
      have hjl : decide ((l.length : Int) ≤ j) = false := by simp; omega
      have hjl' : decide (l.length ≤ j) = false := by simp; omega
      go_enter Try.func59, Try.ntmps59
      go_wp2_with fail
      go_loopw [5] (fun i wr => ∃ k : Nat, i = .int .i64 k ∧ k ≤ j ∧ (openTo l cov k).any (blkB l j) = false ∧ Below w.heap.size w wr) (fun i _ => j - (intOf i).toNat)
      case atStart => exact ⟨0, rfl, Nat.zero_le _, rfl, hB⟩
      case round =>
        obtain ⟨k, rfl, hk, ha, hB⟩ := hrel
        have HA := Lib.hid ha
        clear ha
        obtain ⟨U, rfl⟩ : ∃ U : World, U = wr := ⟨_, rfl⟩
        by_cases hkj : k < j
        · have hkI : (k : Int) < j := by omega
          have hkl : k < l.length := by omega
          have hklI : (k : Int) < l.length := by omega
          have HU := H.out.below hB
          have d0 := cb hB c0; have d1 := cb hB c1
          have e0 := cb hB j0; have e1 := cb hB j1; have e2 := cb hB j2
          obtain ⟨gk', ck', gi', ci', hkv, hiv, k0, -, k1, k2, k3⟩ := HU.at' hkl
          cases hkv; cases hiv
          have HRU := Lib.hid HU
          obtain ⟨sb, hsb⟩ : ∃ sb, stB l cov k = sb := ⟨_, rfl⟩
          have HSB := Lib.hid hsb
          obtain ⟨sk, hsk⟩ : ∃ sk, sameK (itemAt l k) (itemAt l j) = sk := ⟨_, rfl⟩
          have HSKl := Lib.hid hsk
          have HSK := Lib.hid (show same6 (itemAt l k).k (itemAt l k).s (itemAt l k).n (itemAt l j).k (itemAt l j).s (itemAt l j).n = sk from hsk)
          have hB0 := Lib.hid hB
          clear HU hsb hsk
          go_upto_region 9 with (go_at_call 61; refine (rsettled_calls _ HRU.out k hkl hl).mono ?_; rintro e w' ⟨rfl, hb⟩; rw [HSB.out])
          obtain ⟨V, rfl⟩ : ∃ V : World, V = w' := ⟨_, rfl⟩
          have d0 := cb hb d0; have d1 := cb hb d1; have e0 := cb hb e0; have e1 := cb hb e1; have e2 := cb hb e2; have k0 := cb hb k0; have k1 := cb hb k1; have k2 := cb hb k2; have k3 := cb hb k3
          have HB1 := Lib.hid (bl_next hB hb)
          clear hb hB
          have hB := Below.refl V.heap.size V
          generalize hxe : itemAt l k = x at k0 k1 k2 k3 HSK
          have HITE := Lib.hid hxe.symm
          clear hxe
          generalize itemAt l j = y at e0 e1 e2 HSK
          cases sk with
          | false =>
            have hB := hB.drew
            refine region_seq (fun w' => Below V.heap.size V w') [(0, true), (1, true), (2, true), (3, true), (4, true), (5, true), (6, true), (7, true), (8, true), (9, true), (10, true), (11, true), (12, true), (13, true), (14, true), (15, true), (16, true), (17, true), (18, true), (19, true), (20, true), (21, true), (22, true), (23, true), (24, true), (25, true), (26, true), (27, true), (28, true)] (by kernel_rfl) (by kernel_rfl) (fun _ _ _ _ h => h) hB ?_
            try generalize World.drew _ = wS at hB ⊢
            refine seq_take (v := ?_) (a' := ?_) (some 34) rfl rfl (by rfl) ?_ ?_ ?_
            rotate_left; rotate_left
            · intro w' hS; go_simp; with_reducible rfl
            · simp only [Act.put, List.setIfInBounds_toArray, List.set_cons_zero, List.set_cons_succ]; rfl
            refine seq_take (v := ?_) (a' := ?_) (some 35) rfl rfl (by rfl) ?_ ?_ ?_
            rotate_left; rotate_left
            · intro w' hS; go_simp; with_reducible rfl
            · simp only [Act.put, List.setIfInBounds_toArray, List.set_cons_zero, List.set_cons_succ]; rfl
            refine seq_take (v := ?_) (a' := ?_) (some 36) rfl rfl (by rfl) ?_ ?_ ?_
            rotate_left; rotate_left
            · intro w' hS; go_simp; with_reducible rfl
            · simp only [Act.put, List.setIfInBounds_toArray, List.set_cons_zero, List.set_cons_succ]; rfl
            refine seq_take (v := ?_) (a' := ?_) (some 37) rfl rfl (by rfl) ?_ ?_ ?_
            rotate_left; rotate_left
            · intro w' hS; have q0 := cb hS d0; have q1 := cb hS d1; have q2 := cb hS e0; have q3 := cb hS e1; have q4 := cb hS e2; have q5 := cb hS k0; have q6 := cb hS k1; have q7 := cb hS k2; have q8 := cb hS k3; go_simp; with_reducible rfl
            · simp only [Act.put, List.setIfInBounds_toArray, List.set_cons_zero, List.set_cons_succ]; rfl
            refine seq_take (v := ?_) (a' := ?_) (some 38) rfl rfl (by rfl) ?_ ?_ ?_
            rotate_left; rotate_left
            · intro w' hS; go_simp; with_reducible rfl
            · simp only [Act.put, List.setIfInBounds_toArray, List.set_cons_zero, List.set_cons_succ]; rfl
            refine seq_take (v := ?_) (a' := ?_) (some 39) rfl rfl (by rfl) ?_ ?_ ?_
            rotate_left; rotate_left
            · intro w' hS; go_simp; with_reducible rfl
            · simp only [Act.put, List.setIfInBounds_toArray, List.set_cons_zero, List.set_cons_succ]; rfl
            refine seq_take (v := ?_) (a' := ?_) (some 40) rfl rfl (by rfl) ?_ ?_ ?_
            rotate_left; rotate_left
            · intro w' hS; have q0 := cb hS d0; have q1 := cb hS d1; have q2 := cb hS e0; have q3 := cb hS e1; have q4 := cb hS e2; have q5 := cb hS k0; have q6 := cb hS k1; have q7 := cb hS k2; have q8 := cb hS k3; go_simp; with_reducible rfl
            · simp only [Act.put, List.setIfInBounds_toArray, List.set_cons_zero, List.set_cons_succ]; rfl
            refine seq_take (v := ?_) (a' := ?_) (some 41) rfl rfl (by rfl) ?_ ?_ ?_
            rotate_left; rotate_left
            · intro w' hS; go_simp; with_reducible rfl
            · simp only [Act.put, List.setIfInBounds_toArray, List.set_cons_zero, List.set_cons_succ]; rfl
            refine seq_take (v := ?_) (a' := ?_) (some 42) rfl rfl (by rfl) ?_ ?_ ?_
            rotate_left; rotate_left
            · intro w' hS; go_simp; with_reducible rfl
            · simp only [Act.put, List.setIfInBounds_toArray, List.set_cons_zero, List.set_cons_succ]; rfl
            refine seq_take (v := ?_) (a' := ?_) (some 43) rfl rfl (by rfl) ?_ ?_ ?_
            rotate_left; rotate_left
            · intro w' hS; go_simp; with_reducible rfl
            · simp only [Act.put, List.setIfInBounds_toArray, List.set_cons_zero, List.set_cons_succ]; rfl
            refine seq_take (v := ?_) (a' := ?_) (some 44) rfl rfl (by rfl) ?_ ?_ ?_
            rotate_left; rotate_left
            · intro w' hS; have q0 := cb hS d0; have q1 := cb hS d1; have q2 := cb hS e0; have q3 := cb hS e1; have q4 := cb hS e2; have q5 := cb hS k0; have q6 := cb hS k1; have q7 := cb hS k2; have q8 := cb hS k3; go_simp; with_reducible rfl
            · simp only [Act.put, List.setIfInBounds_toArray, List.set_cons_zero, List.set_cons_succ]; rfl
            refine seq_take (v := ?_) (a' := ?_) (some 45) rfl rfl (by rfl) ?_ ?_ ?_
            rotate_left; rotate_left
            · intro w' hS; go_simp; with_reducible rfl
            · simp only [Act.put, List.setIfInBounds_toArray, List.set_cons_zero, List.set_cons_succ]; rfl
            refine seq_take (v := ?_) (a' := ?_) (some 46) rfl rfl (by rfl) ?_ ?_ ?_
            rotate_left; rotate_left
            · intro w' hS; go_simp; with_reducible rfl
            · simp only [Act.put, List.setIfInBounds_toArray, List.set_cons_zero, List.set_cons_succ]; rfl
            refine seq_take (v := ?_) (a' := ?_) (some 47) rfl rfl (by rfl) ?_ ?_ ?_
            rotate_left; rotate_left
            · intro w' hS; have q0 := cb hS d0; have q1 := cb hS d1; have q2 := cb hS e0; have q3 := cb hS e1; have q4 := cb hS e2; have q5 := cb hS k0; have q6 := cb hS k1; have q7 := cb hS k2; have q8 := cb hS k3; go_simp; with_reducible rfl
            · simp only [Act.put, List.setIfInBounds_toArray, List.set_cons_zero, List.set_cons_succ]; rfl
            refine seq_take (v := ?_) (a' := ?_) (some 48) rfl rfl (by rfl) ?_ ?_ ?_
            rotate_left; rotate_left
            · intro w' hS; (first | (go_simp; with_reducible rfl) | (go_simp; exact keyIf' _ _ _ _ _ _ _ HSK.out))
            · simp only [Act.put, List.setIfInBounds_toArray, List.set_cons_zero, List.set_cons_succ]; rfl
            refine seq_take (v := ?_) (a' := ?_) (some 49) rfl rfl (by rfl) ?_ ?_ ?_
            rotate_left; rotate_left
            · intro w' hS; go_simp; with_reducible rfl
            · simp only [Act.put, List.setIfInBounds_toArray, List.set_cons_zero, List.set_cons_succ]; rfl
            refine seq_skip (a' := ?_) (some 50) rfl rfl (by rfl) ?_ ?_
            rotate_left
            · simp only [Act.put, List.setIfInBounds_toArray, List.set_cons_zero, List.set_cons_succ]; rfl
            refine seq_skip (a' := ?_) (some 51) rfl rfl (by rfl) ?_ ?_
            rotate_left
            · simp only [Act.put, List.setIfInBounds_toArray, List.set_cons_zero, List.set_cons_succ]; rfl
            refine seq_skip (a' := ?_) (some 52) rfl rfl (by rfl) ?_ ?_
            rotate_left
            · simp only [Act.put, List.setIfInBounds_toArray, List.set_cons_zero, List.set_cons_succ]; rfl
            refine seq_skip (a' := ?_) (some 53) rfl rfl (by rfl) ?_ ?_
            rotate_left
            · simp only [Act.put, List.setIfInBounds_toArray, List.set_cons_zero, List.set_cons_succ]; rfl
            refine seq_skip (a' := ?_) (some 54) rfl rfl (by rfl) ?_ ?_
            rotate_left
            · simp only [Act.put, List.setIfInBounds_toArray, List.set_cons_zero, List.set_cons_succ]; rfl
            refine seq_skip (a' := ?_) (some 55) rfl rfl (by rfl) ?_ ?_
            rotate_left
            · simp only [Act.put, List.setIfInBounds_toArray, List.set_cons_zero, List.set_cons_succ]; rfl
            refine seq_skip (a' := ?_) (some 56) rfl rfl (by rfl) ?_ ?_
            rotate_left
            · simp only [Act.put, List.setIfInBounds_toArray, List.set_cons_zero, List.set_cons_succ]; rfl
            refine seq_skip (a' := ?_) (some 57) rfl rfl (by rfl) ?_ ?_
            rotate_left
            · simp only [Act.put, List.setIfInBounds_toArray, List.set_cons_zero, List.set_cons_succ]; rfl
            refine seq_take (v := ?_) (a' := ?_) (some 58) rfl rfl (by rfl) ?_ ?_ ?_
            rotate_left; rotate_left
            · intro w' hS; go_simp; with_reducible rfl
            · simp only [Act.put, List.setIfInBounds_toArray, List.set_cons_zero, List.set_cons_succ]; rfl
            refine seq_take (v := ?_) (a' := ?_) (some 59) rfl rfl (by rfl) ?_ ?_ ?_
            rotate_left; rotate_left
            · intro w' hS; go_simp; with_reducible rfl
            · simp only [Act.put, List.setIfInBounds_toArray, List.set_cons_zero, List.set_cons_succ]; rfl
            refine seq_skip (a' := ?_) (some 60) rfl rfl (by rfl) ?_ ?_
            rotate_left
            · simp only [Act.put, List.setIfInBounds_toArray, List.set_cons_zero, List.set_cons_succ]; rfl
            refine seq_skip (a' := ?_) (some 61) rfl rfl (by rfl) ?_ ?_
            rotate_left
            · simp only [Act.put, List.setIfInBounds_toArray, List.set_cons_zero, List.set_cons_succ]; rfl
            refine seq_take (v := ?_) (a' := ?_) (some 62) rfl rfl (by rfl) ?_ ?_ ?_
            rotate_left; rotate_left
            · intro w' hS; go_simp; with_reducible rfl
            · simp only [Act.put, List.setIfInBounds_toArray, List.set_cons_zero, List.set_cons_succ]; rfl
            refine seq_done ?_
            go_wp2_with fail
            go_roundw
            case rel => exact ⟨k + 1, by simp, by omega, tell_none HA.out (by rw [HSKl.out]; rfl), bl_next HB1.out hB⟩
            case measure => simp [intOf]; omega
          | true =>
            by_cases hz : x.st = 0
            · have hzb : ((x.st : Int) == 0) = true := by simp; omega
              have HZ := Lib.hid hz
              clear hz
              have hB := hB.drew
              refine region_seq (fun w' => Below V.heap.size V w') [(0, true), (1, true), (2, true), (3, true), (4, true), (5, true), (6, true), (7, true), (8, true), (9, true), (10, true), (11, true), (12, true), (13, true), (14, true), (15, true), (16, true), (17, true), (18, true), (19, true), (20, true), (21, true), (22, true), (23, true), (24, true), (25, true), (26, true), (27, true), (28, true)] (by kernel_rfl) (by kernel_rfl) (fun _ _ _ _ h => h) hB ?_
              try generalize World.drew _ = wS at hB ⊢
              refine seq_take (v := ?_) (a' := ?_) (some 34) rfl rfl (by rfl) ?_ ?_ ?_
              rotate_left; rotate_left
              · intro w' hS; go_simp; with_reducible rfl
              · simp only [Act.put, List.setIfInBounds_toArray, List.set_cons_zero, List.set_cons_succ]; rfl
              refine seq_take (v := ?_) (a' := ?_) (some 35) rfl rfl (by rfl) ?_ ?_ ?_
              rotate_left; rotate_left
              · intro w' hS; go_simp; with_reducible rfl
              · simp only [Act.put, List.setIfInBounds_toArray, List.set_cons_zero, List.set_cons_succ]; rfl
              refine seq_take (v := ?_) (a' := ?_) (some 36) rfl rfl (by rfl) ?_ ?_ ?_
              rotate_left; rotate_left
              · intro w' hS; go_simp; with_reducible rfl
              · simp only [Act.put, List.setIfInBounds_toArray, List.set_cons_zero, List.set_cons_succ]; rfl
              refine seq_take (v := ?_) (a' := ?_) (some 37) rfl rfl (by rfl) ?_ ?_ ?_
              rotate_left; rotate_left
              · intro w' hS; have q0 := cb hS d0; have q1 := cb hS d1; have q2 := cb hS e0; have q3 := cb hS e1; have q4 := cb hS e2; have q5 := cb hS k0; have q6 := cb hS k1; have q7 := cb hS k2; have q8 := cb hS k3; go_simp; with_reducible rfl
              · simp only [Act.put, List.setIfInBounds_toArray, List.set_cons_zero, List.set_cons_succ]; rfl
              refine seq_take (v := ?_) (a' := ?_) (some 38) rfl rfl (by rfl) ?_ ?_ ?_
              rotate_left; rotate_left
              · intro w' hS; go_simp; with_reducible rfl
              · simp only [Act.put, List.setIfInBounds_toArray, List.set_cons_zero, List.set_cons_succ]; rfl
              refine seq_take (v := ?_) (a' := ?_) (some 39) rfl rfl (by rfl) ?_ ?_ ?_
              rotate_left; rotate_left
              · intro w' hS; go_simp; with_reducible rfl
              · simp only [Act.put, List.setIfInBounds_toArray, List.set_cons_zero, List.set_cons_succ]; rfl
              refine seq_take (v := ?_) (a' := ?_) (some 40) rfl rfl (by rfl) ?_ ?_ ?_
              rotate_left; rotate_left
              · intro w' hS; have q0 := cb hS d0; have q1 := cb hS d1; have q2 := cb hS e0; have q3 := cb hS e1; have q4 := cb hS e2; have q5 := cb hS k0; have q6 := cb hS k1; have q7 := cb hS k2; have q8 := cb hS k3; go_simp; with_reducible rfl
              · simp only [Act.put, List.setIfInBounds_toArray, List.set_cons_zero, List.set_cons_succ]; rfl
              refine seq_take (v := ?_) (a' := ?_) (some 41) rfl rfl (by rfl) ?_ ?_ ?_
              rotate_left; rotate_left
              · intro w' hS; go_simp; with_reducible rfl
              · simp only [Act.put, List.setIfInBounds_toArray, List.set_cons_zero, List.set_cons_succ]; rfl
              refine seq_take (v := ?_) (a' := ?_) (some 42) rfl rfl (by rfl) ?_ ?_ ?_
              rotate_left; rotate_left
              · intro w' hS; go_simp; with_reducible rfl
              · simp only [Act.put, List.setIfInBounds_toArray, List.set_cons_zero, List.set_cons_succ]; rfl
              refine seq_take (v := ?_) (a' := ?_) (some 43) rfl rfl (by rfl) ?_ ?_ ?_
              rotate_left; rotate_left
              · intro w' hS; go_simp; with_reducible rfl
              · simp only [Act.put, List.setIfInBounds_toArray, List.set_cons_zero, List.set_cons_succ]; rfl
              refine seq_take (v := ?_) (a' := ?_) (some 44) rfl rfl (by rfl) ?_ ?_ ?_
              rotate_left; rotate_left
              · intro w' hS; have q0 := cb hS d0; have q1 := cb hS d1; have q2 := cb hS e0; have q3 := cb hS e1; have q4 := cb hS e2; have q5 := cb hS k0; have q6 := cb hS k1; have q7 := cb hS k2; have q8 := cb hS k3; go_simp; with_reducible rfl
              · simp only [Act.put, List.setIfInBounds_toArray, List.set_cons_zero, List.set_cons_succ]; rfl
              refine seq_take (v := ?_) (a' := ?_) (some 45) rfl rfl (by rfl) ?_ ?_ ?_
              rotate_left; rotate_left
              · intro w' hS; go_simp; with_reducible rfl
              · simp only [Act.put, List.setIfInBounds_toArray, List.set_cons_zero, List.set_cons_succ]; rfl
              refine seq_take (v := ?_) (a' := ?_) (some 46) rfl rfl (by rfl) ?_ ?_ ?_
              rotate_left; rotate_left
              · intro w' hS; go_simp; with_reducible rfl
              · simp only [Act.put, List.setIfInBounds_toArray, List.set_cons_zero, List.set_cons_succ]; rfl
              refine seq_take (v := ?_) (a' := ?_) (some 47) rfl rfl (by rfl) ?_ ?_ ?_
              rotate_left; rotate_left
              · intro w' hS; have q0 := cb hS d0; have q1 := cb hS d1; have q2 := cb hS e0; have q3 := cb hS e1; have q4 := cb hS e2; have q5 := cb hS k0; have q6 := cb hS k1; have q7 := cb hS k2; have q8 := cb hS k3; go_simp; with_reducible rfl
              · simp only [Act.put, List.setIfInBounds_toArray, List.set_cons_zero, List.set_cons_succ]; rfl
              refine seq_take (v := ?_) (a' := ?_) (some 48) rfl rfl (by rfl) ?_ ?_ ?_
              rotate_left; rotate_left
              · intro w' hS; (first | (go_simp; with_reducible rfl) | (go_simp; exact keyIf' _ _ _ _ _ _ _ HSK.out))
              · simp only [Act.put, List.setIfInBounds_toArray, List.set_cons_zero, List.set_cons_succ]; rfl
              refine seq_take (v := ?_) (a' := ?_) (some 49) rfl rfl (by rfl) ?_ ?_ ?_
              rotate_left; rotate_left
              · intro w' hS; go_simp; with_reducible rfl
              · simp only [Act.put, List.setIfInBounds_toArray, List.set_cons_zero, List.set_cons_succ]; rfl
              refine seq_take (v := ?_) (a' := ?_) (some 50) rfl rfl (by rfl) ?_ ?_ ?_
              rotate_left; rotate_left
              · intro w' hS; go_simp; with_reducible rfl
              · simp only [Act.put, List.setIfInBounds_toArray, List.set_cons_zero, List.set_cons_succ]; rfl
              refine seq_take (v := ?_) (a' := ?_) (some 51) rfl rfl (by rfl) ?_ ?_ ?_
              rotate_left; rotate_left
              · intro w' hS; go_simp; with_reducible rfl
              · simp only [Act.put, List.setIfInBounds_toArray, List.set_cons_zero, List.set_cons_succ]; rfl
              refine seq_take (v := ?_) (a' := ?_) (some 52) rfl rfl (by rfl) ?_ ?_ ?_
              rotate_left; rotate_left
              · intro w' hS; go_simp; with_reducible rfl
              · simp only [Act.put, List.setIfInBounds_toArray, List.set_cons_zero, List.set_cons_succ]; rfl
              refine seq_take (v := ?_) (a' := ?_) (some 53) rfl rfl (by rfl) ?_ ?_ ?_
              rotate_left; rotate_left
              · intro w' hS; have q0 := cb hS d0; have q1 := cb hS d1; have q2 := cb hS e0; have q3 := cb hS e1; have q4 := cb hS e2; have q5 := cb hS k0; have q6 := cb hS k1; have q7 := cb hS k2; have q8 := cb hS k3; go_simp; with_reducible rfl
              · simp only [Act.put, List.setIfInBounds_toArray, List.set_cons_zero, List.set_cons_succ]; rfl
              refine seq_take (v := ?_) (a' := ?_) (some 54) rfl rfl (by rfl) ?_ ?_ ?_
              rotate_left; rotate_left
              · intro w' hS; go_simp; with_reducible rfl
              · simp only [Act.put, List.setIfInBounds_toArray, List.set_cons_zero, List.set_cons_succ]; rfl
              refine seq_take (v := ?_) (a' := ?_) (some 55) rfl rfl (by rfl) ?_ ?_ ?_
              rotate_left; rotate_left
              · intro w' hS; go_simp; with_reducible rfl
              · simp only [Act.put, List.setIfInBounds_toArray, List.set_cons_zero, List.set_cons_succ]; rfl
              refine seq_take (v := ?_) (a' := ?_) (some 56) rfl rfl (by rfl) ?_ ?_ ?_
              rotate_left; rotate_left
              · intro w' hS; have q0 := cb hS d0; have q1 := cb hS d1; have q2 := cb hS e0; have q3 := cb hS e1; have q4 := cb hS e2; have q5 := cb hS k0; have q6 := cb hS k1; have q7 := cb hS k2; have q8 := cb hS k3; go_simp; with_reducible rfl
              · simp only [Act.put, List.setIfInBounds_toArray, List.set_cons_zero, List.set_cons_succ]; rfl
              refine seq_take (v := ?_) (a' := ?_) (some 57) rfl rfl (by rfl) ?_ ?_ ?_
              rotate_left; rotate_left
              · intro w' hS; (first | (go_simp; with_reducible rfl) | (go_simp; exact keyIf' _ _ _ _ _ _ _ HSK.out))
              · simp only [Act.put, List.setIfInBounds_toArray, List.set_cons_zero, List.set_cons_succ]; rfl
              refine seq_take (v := ?_) (a' := ?_) (some 58) rfl rfl (by rfl) ?_ ?_ ?_
              rotate_left; rotate_left
              · intro w' hS; go_simp; with_reducible rfl
              · simp only [Act.put, List.setIfInBounds_toArray, List.set_cons_zero, List.set_cons_succ]; rfl
              refine seq_take (v := ?_) (a' := ?_) (some 59) rfl rfl (by rfl) ?_ ?_ ?_
              rotate_left; rotate_left
              · intro w' hS; go_simp; with_reducible rfl
              · simp only [Act.put, List.setIfInBounds_toArray, List.set_cons_zero, List.set_cons_succ]; rfl
              refine seq_take (v := ?_) (a' := ?_) (some 60) rfl rfl (by rfl) ?_ ?_ ?_
              rotate_left; rotate_left
              · intro w' hS; go_simp; with_reducible rfl
              · simp only [Act.put, List.setIfInBounds_toArray, List.set_cons_zero, List.set_cons_succ]; rfl
              refine seq_take (v := ?_) (a' := ?_) (some 61) rfl rfl (by rfl) ?_ ?_ ?_
              rotate_left; rotate_left
              · intro w' hS; go_simp; with_reducible rfl
              · simp only [Act.put, List.setIfInBounds_toArray, List.set_cons_zero, List.set_cons_succ]; rfl
              refine seq_take (v := ?_) (a' := ?_) (some 62) rfl rfl (by rfl) ?_ ?_ ?_
              rotate_left; rotate_left
              · intro w' hS; go_simp; with_reducible rfl
              · simp only [Act.put, List.setIfInBounds_toArray, List.set_cons_zero, List.set_cons_succ]; rfl
              refine seq_done ?_
              cases sb with
              | true =>
                go_wp2_with fail
                go_roundw
                case rel => exact ⟨k + 1, by simp, by omega, tell_none HA.out (by rw [HSB.out]; simp), bl_next HB1.out hB⟩
                case measure => simp [intOf]; omega
              | false =>
                have HX2 := Lib.hid (show tellR l cov (j : Int) = (7, l) by rw [HX.out, if_pos (tell_some hkj HSKl.out (by rw [← HZ.out, HITE.out]) HSB.out)])
                go_wp2_with fail
                go_ret
                exact ⟨by rw [HX2.out]; rfl, by rw [HX2.out]; exact H.out.below (bl_next HB1.out hB), kept_of_below (bl_next HB1.out hB)⟩
            · have hzb : ((x.st : Int) == 0) = false := by simp; omega
              have HZ := Lib.hid hz
              have hB := hB.drew
              refine region_seq (fun w' => Below V.heap.size V w') [(0, true), (1, true), (2, true), (3, true), (4, true), (5, true), (6, true), (7, true), (8, true), (9, true), (10, true), (11, true), (12, true), (13, true), (14, true), (15, true), (16, true), (17, true), (18, true), (19, true), (20, true), (21, true), (22, true), (23, true), (24, true), (25, true), (26, true), (27, true), (28, true)] (by kernel_rfl) (by kernel_rfl) (fun _ _ _ _ h => h) hB ?_
              try generalize World.drew _ = wS at hB ⊢
              refine seq_take (v := ?_) (a' := ?_) (some 34) rfl rfl (by rfl) ?_ ?_ ?_
              rotate_left; rotate_left
              · intro w' hS; go_simp; with_reducible rfl
              · simp only [Act.put, List.setIfInBounds_toArray, List.set_cons_zero, List.set_cons_succ]; rfl
              refine seq_take (v := ?_) (a' := ?_) (some 35) rfl rfl (by rfl) ?_ ?_ ?_
              rotate_left; rotate_left
              · intro w' hS; go_simp; with_reducible rfl
              · simp only [Act.put, List.setIfInBounds_toArray, List.set_cons_zero, List.set_cons_succ]; rfl
              refine seq_take (v := ?_) (a' := ?_) (some 36) rfl rfl (by rfl) ?_ ?_ ?_
              rotate_left; rotate_left
              · intro w' hS; go_simp; with_reducible rfl
              · simp only [Act.put, List.setIfInBounds_toArray, List.set_cons_zero, List.set_cons_succ]; rfl
              refine seq_take (v := ?_) (a' := ?_) (some 37) rfl rfl (by rfl) ?_ ?_ ?_
              rotate_left; rotate_left
              · intro w' hS; have q0 := cb hS d0; have q1 := cb hS d1; have q2 := cb hS e0; have q3 := cb hS e1; have q4 := cb hS e2; have q5 := cb hS k0; have q6 := cb hS k1; have q7 := cb hS k2; have q8 := cb hS k3; go_simp; with_reducible rfl
              · simp only [Act.put, List.setIfInBounds_toArray, List.set_cons_zero, List.set_cons_succ]; rfl
              refine seq_take (v := ?_) (a' := ?_) (some 38) rfl rfl (by rfl) ?_ ?_ ?_
              rotate_left; rotate_left
              · intro w' hS; go_simp; with_reducible rfl
              · simp only [Act.put, List.setIfInBounds_toArray, List.set_cons_zero, List.set_cons_succ]; rfl
              refine seq_take (v := ?_) (a' := ?_) (some 39) rfl rfl (by rfl) ?_ ?_ ?_
              rotate_left; rotate_left
              · intro w' hS; go_simp; with_reducible rfl
              · simp only [Act.put, List.setIfInBounds_toArray, List.set_cons_zero, List.set_cons_succ]; rfl
              refine seq_take (v := ?_) (a' := ?_) (some 40) rfl rfl (by rfl) ?_ ?_ ?_
              rotate_left; rotate_left
              · intro w' hS; have q0 := cb hS d0; have q1 := cb hS d1; have q2 := cb hS e0; have q3 := cb hS e1; have q4 := cb hS e2; have q5 := cb hS k0; have q6 := cb hS k1; have q7 := cb hS k2; have q8 := cb hS k3; go_simp; with_reducible rfl
              · simp only [Act.put, List.setIfInBounds_toArray, List.set_cons_zero, List.set_cons_succ]; rfl
              refine seq_take (v := ?_) (a' := ?_) (some 41) rfl rfl (by rfl) ?_ ?_ ?_
              rotate_left; rotate_left
              · intro w' hS; go_simp; with_reducible rfl
              · simp only [Act.put, List.setIfInBounds_toArray, List.set_cons_zero, List.set_cons_succ]; rfl
              refine seq_take (v := ?_) (a' := ?_) (some 42) rfl rfl (by rfl) ?_ ?_ ?_
              rotate_left; rotate_left
              · intro w' hS; go_simp; with_reducible rfl
              · simp only [Act.put, List.setIfInBounds_toArray, List.set_cons_zero, List.set_cons_succ]; rfl
              refine seq_take (v := ?_) (a' := ?_) (some 43) rfl rfl (by rfl) ?_ ?_ ?_
              rotate_left; rotate_left
              · intro w' hS; go_simp; with_reducible rfl
              · simp only [Act.put, List.setIfInBounds_toArray, List.set_cons_zero, List.set_cons_succ]; rfl
              refine seq_take (v := ?_) (a' := ?_) (some 44) rfl rfl (by rfl) ?_ ?_ ?_
              rotate_left; rotate_left
              · intro w' hS; have q0 := cb hS d0; have q1 := cb hS d1; have q2 := cb hS e0; have q3 := cb hS e1; have q4 := cb hS e2; have q5 := cb hS k0; have q6 := cb hS k1; have q7 := cb hS k2; have q8 := cb hS k3; go_simp; with_reducible rfl
              · simp only [Act.put, List.setIfInBounds_toArray, List.set_cons_zero, List.set_cons_succ]; rfl
              refine seq_take (v := ?_) (a' := ?_) (some 45) rfl rfl (by rfl) ?_ ?_ ?_
              rotate_left; rotate_left
              · intro w' hS; go_simp; with_reducible rfl
              · simp only [Act.put, List.setIfInBounds_toArray, List.set_cons_zero, List.set_cons_succ]; rfl
              refine seq_take (v := ?_) (a' := ?_) (some 46) rfl rfl (by rfl) ?_ ?_ ?_
              rotate_left; rotate_left
              · intro w' hS; go_simp; with_reducible rfl
              · simp only [Act.put, List.setIfInBounds_toArray, List.set_cons_zero, List.set_cons_succ]; rfl
              refine seq_take (v := ?_) (a' := ?_) (some 47) rfl rfl (by rfl) ?_ ?_ ?_
              rotate_left; rotate_left
              · intro w' hS; have q0 := cb hS d0; have q1 := cb hS d1; have q2 := cb hS e0; have q3 := cb hS e1; have q4 := cb hS e2; have q5 := cb hS k0; have q6 := cb hS k1; have q7 := cb hS k2; have q8 := cb hS k3; go_simp; with_reducible rfl
              · simp only [Act.put, List.setIfInBounds_toArray, List.set_cons_zero, List.set_cons_succ]; rfl
              refine seq_take (v := ?_) (a' := ?_) (some 48) rfl rfl (by rfl) ?_ ?_ ?_
              rotate_left; rotate_left
              · intro w' hS; (first | (go_simp; with_reducible rfl) | (go_simp; exact keyIf' _ _ _ _ _ _ _ HSK.out))
              · simp only [Act.put, List.setIfInBounds_toArray, List.set_cons_zero, List.set_cons_succ]; rfl
              refine seq_take (v := ?_) (a' := ?_) (some 49) rfl rfl (by rfl) ?_ ?_ ?_
              rotate_left; rotate_left
              · intro w' hS; go_simp; with_reducible rfl
              · simp only [Act.put, List.setIfInBounds_toArray, List.set_cons_zero, List.set_cons_succ]; rfl
              refine seq_take (v := ?_) (a' := ?_) (some 50) rfl rfl (by rfl) ?_ ?_ ?_
              rotate_left; rotate_left
              · intro w' hS; go_simp; with_reducible rfl
              · simp only [Act.put, List.setIfInBounds_toArray, List.set_cons_zero, List.set_cons_succ]; rfl
              refine seq_take (v := ?_) (a' := ?_) (some 51) rfl rfl (by rfl) ?_ ?_ ?_
              rotate_left; rotate_left
              · intro w' hS; go_simp; with_reducible rfl
              · simp only [Act.put, List.setIfInBounds_toArray, List.set_cons_zero, List.set_cons_succ]; rfl
              refine seq_take (v := ?_) (a' := ?_) (some 52) rfl rfl (by rfl) ?_ ?_ ?_
              rotate_left; rotate_left
              · intro w' hS; go_simp; with_reducible rfl
              · simp only [Act.put, List.setIfInBounds_toArray, List.set_cons_zero, List.set_cons_succ]; rfl
              refine seq_take (v := ?_) (a' := ?_) (some 53) rfl rfl (by rfl) ?_ ?_ ?_
              rotate_left; rotate_left
              · intro w' hS; have q0 := cb hS d0; have q1 := cb hS d1; have q2 := cb hS e0; have q3 := cb hS e1; have q4 := cb hS e2; have q5 := cb hS k0; have q6 := cb hS k1; have q7 := cb hS k2; have q8 := cb hS k3; go_simp; with_reducible rfl
              · simp only [Act.put, List.setIfInBounds_toArray, List.set_cons_zero, List.set_cons_succ]; rfl
              refine seq_take (v := ?_) (a' := ?_) (some 54) rfl rfl (by rfl) ?_ ?_ ?_
              rotate_left; rotate_left
              · intro w' hS; go_simp; with_reducible rfl
              · simp only [Act.put, List.setIfInBounds_toArray, List.set_cons_zero, List.set_cons_succ]; rfl
              refine seq_take (v := ?_) (a' := ?_) (some 55) rfl rfl (by rfl) ?_ ?_ ?_
              rotate_left; rotate_left
              · intro w' hS; go_simp; with_reducible rfl
              · simp only [Act.put, List.setIfInBounds_toArray, List.set_cons_zero, List.set_cons_succ]; rfl
              refine seq_take (v := ?_) (a' := ?_) (some 56) rfl rfl (by rfl) ?_ ?_ ?_
              rotate_left; rotate_left
              · intro w' hS; have q0 := cb hS d0; have q1 := cb hS d1; have q2 := cb hS e0; have q3 := cb hS e1; have q4 := cb hS e2; have q5 := cb hS k0; have q6 := cb hS k1; have q7 := cb hS k2; have q8 := cb hS k3; go_simp; with_reducible rfl
              · simp only [Act.put, List.setIfInBounds_toArray, List.set_cons_zero, List.set_cons_succ]; rfl
              refine seq_take (v := ?_) (a' := ?_) (some 57) rfl rfl (by rfl) ?_ ?_ ?_
              rotate_left; rotate_left
              · intro w' hS; (first | (go_simp; with_reducible rfl) | (go_simp; exact keyIf' _ _ _ _ _ _ _ HSK.out))
              · simp only [Act.put, List.setIfInBounds_toArray, List.set_cons_zero, List.set_cons_succ]; rfl
              refine seq_take (v := ?_) (a' := ?_) (some 58) rfl rfl (by rfl) ?_ ?_ ?_
              rotate_left; rotate_left
              · intro w' hS; go_simp; with_reducible rfl
              · simp only [Act.put, List.setIfInBounds_toArray, List.set_cons_zero, List.set_cons_succ]; rfl
              refine seq_take (v := ?_) (a' := ?_) (some 59) rfl rfl (by rfl) ?_ ?_ ?_
              rotate_left; rotate_left
              · intro w' hS; go_simp; with_reducible rfl
              · simp only [Act.put, List.setIfInBounds_toArray, List.set_cons_zero, List.set_cons_succ]; rfl
              refine seq_skip (a' := ?_) (some 60) rfl rfl (by rfl) ?_ ?_
              rotate_left
              · simp only [Act.put, List.setIfInBounds_toArray, List.set_cons_zero, List.set_cons_succ]; rfl
              refine seq_skip (a' := ?_) (some 61) rfl rfl (by rfl) ?_ ?_
              rotate_left
              · simp only [Act.put, List.setIfInBounds_toArray, List.set_cons_zero, List.set_cons_succ]; rfl
              refine seq_take (v := ?_) (a' := ?_) (some 62) rfl rfl (by rfl) ?_ ?_ ?_
              rotate_left; rotate_left
              · intro w' hS; go_simp; with_reducible rfl
              · simp only [Act.put, List.setIfInBounds_toArray, List.set_cons_zero, List.set_cons_succ]; rfl
              refine seq_done ?_
              go_wp2_with fail
              go_roundw
              case rel => exact ⟨k + 1, by simp, by omega, tell_none HA.out (by rw [← HITE.out]; simp [HZ.out]), bl_next HB1.out hB⟩
              case measure => simp [intOf]; omega
        · obtain rfl : k = j := by omega
          have HX2 := Lib.hid (show tellR l cov (k : Int) = (0, setSt l k 1) by rw [HX.out, HA.out]; rfl)
          have HU := Lib.hid (H.out.below hB)
          have d1 := cb hB c1
          have d2 := cb hB i0
          have d3 := fzb hB (lt_of_cell i0) fi
          go_wp2_with fail
          go_ret
          refine ⟨by rw [HX2.out]; rfl, ?_, (kept_of_below hB).setCell _ _ (.inl (.inr (.inr rfl)))⟩
          rw [HX2.out]
          exact HU.out.setSt k 1
end Go.Proofs.Ytdcceaafiammfaa

import Derived.Test.YtdcceaafiammfaaFdr
namespace Go.Proofs.Ytdcceaafiammfaa
open Go.RowKit
set_option linter.unusedVariables false
set_option linter.unusedSimpArgs false
def lastTo (l : List Item) (i k : Nat) : Bool := (List.range k).all fun j => !(decide (i < j) && sameK (itemAt l j) (itemAt l i))
theorem lastTo_all (l : List Item) (i : Nat) : lastTo l i l.length = lastB l i := rfl
theorem lastTo_zero (l : List Item) (i : Nat) : lastTo l i (i + 1) = true := by
  unfold lastTo; rw [List.all_eq_true]; intro j hj; rw [List.mem_range] at hj; simp; omega
theorem lastTo_succ {l : List Item} {i k : Nat} (h : i < k) : lastTo l i (k + 1) = (lastTo l i k && !sameK (itemAt l k) (itemAt l i)) := by
  unfold lastTo; rw [List.range_succ, List.all_append]; simp [h]
def setTo (l : List Item) (cov k : Nat) : Bool := (List.range k).all fun i => !lastB l i || stB l cov i
theorem setTo_succ (l : List Item) (cov k : Nat) : setTo l cov (k + 1) = (setTo l cov k && (!lastB l k || stB l cov k)) := by
  unfold setTo; rw [List.range_succ, List.all_append]; simp
theorem setTo_false {l : List Item} {cov k : Nat} (hk : k < l.length) (h : lastB l k = true) (h2 : stB l cov k = false) : settledAll l cov = false := by
  unfold settledAll; rw [List.all_eq_false]; exact ⟨k, List.mem_range.2 hk, by simp [h, h2]⟩
theorem keyNe' (a b c a' b' c' : ByteArray) (w : World) {q : Bool} (h : same6 a b c a' b' c' = q) : (if a.toList = a'.toList then if b.toList = b'.toList then if c.toList = c'.toList then Result.ok (Next.value (Value.bool false)) w else Result.ok (Next.value (Value.bool true)) w else Result.ok (Next.value (Value.bool true)) w else Result.ok (Next.value (Value.bool true)) w)
    = .ok (.value (.bool (!q))) w := by
  rw [← h]
  simp only [ba_eq, same6]
  by_cases h1 : a = a' <;> by_cases h2 : b = b' <;> by_cases h3 : c = c' <;> simp [h1, h2, h3]
set_option maxRecDepth 100000 in
set_option maxHeartbeats 8000000 in
theorem rsettledAll_calls {base rb : Nat} {kv iv : Value} {l : List Item} {cov : Nat} (w : World) (h : RefAt w base rb kv iv l cov) (hl : l.length ≤ 1000000) :
    Calls Try.prog 24 #[.pointer (some ⟨rb, 0, none⟩)] w fun e w' => e = .returned (.bool (settledAll l cov)) ∧ Below w.heap.size w w' := by
  have hB := Below.refl w.heap.size w
  obtain ⟨ak, ck, ai, ci, rfl, rfl⟩ := h.lens
  have H := Lib.hid h
  have c0 := blk_cell h.box 0
  clear h
  go_enter Try.func24, Try.ntmps24
  go_wp2
  go_loopw [3] (fun i wr => ∃ k : Nat, i = .int .i64 k ∧ k ≤ l.length ∧ setTo l cov k = true ∧ Below w.heap.size w wr) (fun i _ => l.length - (intOf i).toNat)
  case atStart => exact ⟨0, rfl, Nat.zero_le _, rfl, hB⟩
  case round =>
    obtain ⟨k, rfl, hk, hs, hB⟩ := hrel
    have HST := Lib.hid hs
    clear hs
    obtain ⟨U, rfl⟩ : ∃ U : World, U = wr := ⟨_, rfl⟩
    have d0 := cb hB c0
    by_cases hkl : k < l.length
    · have hkI : (k : Int) < l.length := by omega
      go_wp2_with fail
      have HB0 := Lib.hid hB
      go_loopw [4, 5] (fun s4 i wr => ∃ m : Nat, (i = .int .i64 m ∧ s4 = .bool (lastTo l k m)) ∧ k < m ∧ m ≤ l.length ∧ Below w.heap.size w wr) (fun _ i _ => l.length - (intOf i).toNat)
      case atStart => exact ⟨k + 1, ⟨by simp, by rw [lastTo_zero]⟩, by omega, by omega, hB⟩
      case round =>
        obtain ⟨m, ⟨rfl, rfl⟩, hkm, hm, hB⟩ := hrel
        have d0 := cb hB c0
        by_cases hml : m < l.length
        · have hmI : (m : Int) < l.length := by omega
          obtain ⟨gk, ck', gi, ci', hkv, hiv, -, -, k1, k2, k3⟩ := (H.out.below hB).at' hkl
          cases hkv; cases hiv
          obtain ⟨gk', ck', gi', ci', hkv, hiv, -, -, m1, m2, m3⟩ := (H.out.below hB).at' hml
          cases hkv; cases hiv
          obtain ⟨b, hb⟩ : ∃ b, lastTo l k m = b := ⟨_, rfl⟩
          obtain ⟨sk, hsk⟩ : ∃ sk, sameK (itemAt l m) (itemAt l k) = sk := ⟨_, rfl⟩
          have HSK := Lib.hid (show same6 (itemAt l m).k (itemAt l m).s (itemAt l m).n (itemAt l k).k (itemAt l k).s (itemAt l k).n = sk from hsk)
          have HN := Lib.hid (show lastTo l k (m + 1) = (b && !sk) by rw [lastTo_succ hkm, hb, hsk])
          rw [hb]
          have HB1 := Lib.hid hB
          obtain ⟨V, rfl⟩ : ∃ V : World, V = wr := ⟨_, rfl⟩
          have hB := Below.refl V.heap.size V
          clear hb hsk
          generalize itemAt l m = x at m1 m2 m3 HSK
          generalize itemAt l k = y at k1 k2 k3 HSK
          go_upto_region 8 with fail
          cases b with
          | false =>
            have hB := hB.drew
            refine region_seq (fun w' => Below V.heap.size V w') [(0, true), (1, true), (2, true), (3, true), (4, true), (5, true), (6, true), (7, true), (8, true), (9, true), (10, true), (11, true), (12, true), (13, true), (14, true), (15, true), (16, true), (17, true), (18, true)] (by kernel_rfl) (by kernel_rfl) (fun _ _ _ _ h => h) hB ?_
            try generalize World.drew _ = wS at hB ⊢
            refine seq_take (v := ?_) (a' := ?_) (some 27) rfl rfl (by rfl) ?_ ?_ ?_
            rotate_left; rotate_left
            · intro w' hS; go_simp; with_reducible rfl
            · simp only [Act.put, List.setIfInBounds_toArray, List.set_cons_zero, List.set_cons_succ]; rfl
            refine seq_take (v := ?_) (a' := ?_) (some 28) rfl rfl (by rfl) ?_ ?_ ?_
            rotate_left; rotate_left
            · intro w' hS; go_simp; with_reducible rfl
            · simp only [Act.put, List.setIfInBounds_toArray, List.set_cons_zero, List.set_cons_succ]; rfl
            refine seq_skip (a' := ?_) (some 29) rfl rfl (by rfl) ?_ ?_
            rotate_left
            · simp only [Act.put, List.setIfInBounds_toArray, List.set_cons_zero, List.set_cons_succ]; rfl
            refine seq_skip (a' := ?_) (some 30) rfl rfl (by rfl) ?_ ?_
            rotate_left
            · simp only [Act.put, List.setIfInBounds_toArray, List.set_cons_zero, List.set_cons_succ]; rfl
            refine seq_skip (a' := ?_) (some 31) rfl rfl (by rfl) ?_ ?_
            rotate_left
            · simp only [Act.put, List.setIfInBounds_toArray, List.set_cons_zero, List.set_cons_succ]; rfl
            refine seq_skip (a' := ?_) (some 32) rfl rfl (by rfl) ?_ ?_
            rotate_left
            · simp only [Act.put, List.setIfInBounds_toArray, List.set_cons_zero, List.set_cons_succ]; rfl
            refine seq_skip (a' := ?_) (some 33) rfl rfl (by rfl) ?_ ?_
            rotate_left
            · simp only [Act.put, List.setIfInBounds_toArray, List.set_cons_zero, List.set_cons_succ]; rfl
            refine seq_skip (a' := ?_) (some 34) rfl rfl (by rfl) ?_ ?_
            rotate_left
            · simp only [Act.put, List.setIfInBounds_toArray, List.set_cons_zero, List.set_cons_succ]; rfl
            refine seq_skip (a' := ?_) (some 35) rfl rfl (by rfl) ?_ ?_
            rotate_left
            · simp only [Act.put, List.setIfInBounds_toArray, List.set_cons_zero, List.set_cons_succ]; rfl
            refine seq_skip (a' := ?_) (some 36) rfl rfl (by rfl) ?_ ?_
            rotate_left
            · simp only [Act.put, List.setIfInBounds_toArray, List.set_cons_zero, List.set_cons_succ]; rfl
            refine seq_skip (a' := ?_) (some 37) rfl rfl (by rfl) ?_ ?_
            rotate_left
            · simp only [Act.put, List.setIfInBounds_toArray, List.set_cons_zero, List.set_cons_succ]; rfl
            refine seq_skip (a' := ?_) (some 38) rfl rfl (by rfl) ?_ ?_
            rotate_left
            · simp only [Act.put, List.setIfInBounds_toArray, List.set_cons_zero, List.set_cons_succ]; rfl
            refine seq_skip (a' := ?_) (some 39) rfl rfl (by rfl) ?_ ?_
            rotate_left
            · simp only [Act.put, List.setIfInBounds_toArray, List.set_cons_zero, List.set_cons_succ]; rfl
            refine seq_skip (a' := ?_) (some 40) rfl rfl (by rfl) ?_ ?_
            rotate_left
            · simp only [Act.put, List.setIfInBounds_toArray, List.set_cons_zero, List.set_cons_succ]; rfl
            refine seq_skip (a' := ?_) (some 41) rfl rfl (by rfl) ?_ ?_
            rotate_left
            · simp only [Act.put, List.setIfInBounds_toArray, List.set_cons_zero, List.set_cons_succ]; rfl
            refine seq_skip (a' := ?_) (some 42) rfl rfl (by rfl) ?_ ?_
            rotate_left
            · simp only [Act.put, List.setIfInBounds_toArray, List.set_cons_zero, List.set_cons_succ]; rfl
            refine seq_skip (a' := ?_) (some 43) rfl rfl (by rfl) ?_ ?_
            rotate_left
            · simp only [Act.put, List.setIfInBounds_toArray, List.set_cons_zero, List.set_cons_succ]; rfl
            refine seq_take (v := ?_) (a' := ?_) (some 44) rfl rfl (by rfl) ?_ ?_ ?_
            rotate_left; rotate_left
            · intro w' hS; go_simp; with_reducible rfl
            · simp only [Act.put, List.setIfInBounds_toArray, List.set_cons_zero, List.set_cons_succ]; rfl
            refine seq_take (v := ?_) (a' := ?_) (some 4) rfl rfl (by rfl) ?_ ?_ ?_
            rotate_left; rotate_left
            · intro w' hS; go_simp; with_reducible rfl
            · simp only [Act.put, List.setIfInBounds_toArray, List.set_cons_zero, List.set_cons_succ]; rfl
            refine seq_done ?_
            go_wp2_with fail
            go_roundw
            case rel => exact ⟨m + 1, ⟨by simp, by rw [HN.out]; rfl⟩, by omega, by omega, bl_next HB1.out hB⟩
            case measure => simp [intOf]; omega
          | true =>
            have hB := hB.drew
            refine region_seq (fun w' => Below V.heap.size V w') [(0, true), (1, true), (2, true), (3, true), (4, true), (5, true), (6, true), (7, true), (8, true), (9, true), (10, true), (11, true), (12, true), (13, true), (14, true), (15, true), (16, true), (17, true), (18, true)] (by kernel_rfl) (by kernel_rfl) (fun _ _ _ _ h => h) hB ?_
            try generalize World.drew _ = wS at hB ⊢
            refine seq_take (v := ?_) (a' := ?_) (some 27) rfl rfl (by rfl) ?_ ?_ ?_
            rotate_left; rotate_left
            · intro w' hS; go_simp; with_reducible rfl
            · simp only [Act.put, List.setIfInBounds_toArray, List.set_cons_zero, List.set_cons_succ]; rfl
            refine seq_take (v := ?_) (a' := ?_) (some 28) rfl rfl (by rfl) ?_ ?_ ?_
            rotate_left; rotate_left
            · intro w' hS; go_simp; with_reducible rfl
            · simp only [Act.put, List.setIfInBounds_toArray, List.set_cons_zero, List.set_cons_succ]; rfl
            refine seq_take (v := ?_) (a' := ?_) (some 29) rfl rfl (by rfl) ?_ ?_ ?_
            rotate_left; rotate_left
            · intro w' hS; go_simp; with_reducible rfl
            · simp only [Act.put, List.setIfInBounds_toArray, List.set_cons_zero, List.set_cons_succ]; rfl
            refine seq_take (v := ?_) (a' := ?_) (some 30) rfl rfl (by rfl) ?_ ?_ ?_
            rotate_left; rotate_left
            · intro w' hS; go_simp; with_reducible rfl
            · simp only [Act.put, List.setIfInBounds_toArray, List.set_cons_zero, List.set_cons_succ]; rfl
            refine seq_take (v := ?_) (a' := ?_) (some 31) rfl rfl (by rfl) ?_ ?_ ?_
            rotate_left; rotate_left
            · intro w' hS; go_simp; with_reducible rfl
            · simp only [Act.put, List.setIfInBounds_toArray, List.set_cons_zero, List.set_cons_succ]; rfl
            refine seq_take (v := ?_) (a' := ?_) (some 32) rfl rfl (by rfl) ?_ ?_ ?_
            rotate_left; rotate_left
            · intro w' hS; have q0 := cb hS d0; have q2 := cb hS k1; have q3 := cb hS k2; have q4 := cb hS k3; have q6 := cb hS m1; have q7 := cb hS m2; have q8 := cb hS m3; go_simp; with_reducible rfl
            · simp only [Act.put, List.setIfInBounds_toArray, List.set_cons_zero, List.set_cons_succ]; rfl
            refine seq_take (v := ?_) (a' := ?_) (some 33) rfl rfl (by rfl) ?_ ?_ ?_
            rotate_left; rotate_left
            · intro w' hS; go_simp; with_reducible rfl
            · simp only [Act.put, List.setIfInBounds_toArray, List.set_cons_zero, List.set_cons_succ]; rfl
            refine seq_take (v := ?_) (a' := ?_) (some 34) rfl rfl (by rfl) ?_ ?_ ?_
            rotate_left; rotate_left
            · intro w' hS; go_simp; with_reducible rfl
            · simp only [Act.put, List.setIfInBounds_toArray, List.set_cons_zero, List.set_cons_succ]; rfl
            refine seq_take (v := ?_) (a' := ?_) (some 35) rfl rfl (by rfl) ?_ ?_ ?_
            rotate_left; rotate_left
            · intro w' hS; have q0 := cb hS d0; have q2 := cb hS k1; have q3 := cb hS k2; have q4 := cb hS k3; have q6 := cb hS m1; have q7 := cb hS m2; have q8 := cb hS m3; go_simp; with_reducible rfl
            · simp only [Act.put, List.setIfInBounds_toArray, List.set_cons_zero, List.set_cons_succ]; rfl
            refine seq_take (v := ?_) (a' := ?_) (some 36) rfl rfl (by rfl) ?_ ?_ ?_
            rotate_left; rotate_left
            · intro w' hS; go_simp; with_reducible rfl
            · simp only [Act.put, List.setIfInBounds_toArray, List.set_cons_zero, List.set_cons_succ]; rfl
            refine seq_take (v := ?_) (a' := ?_) (some 37) rfl rfl (by rfl) ?_ ?_ ?_
            rotate_left; rotate_left
            · intro w' hS; go_simp; with_reducible rfl
            · simp only [Act.put, List.setIfInBounds_toArray, List.set_cons_zero, List.set_cons_succ]; rfl
            refine seq_take (v := ?_) (a' := ?_) (some 38) rfl rfl (by rfl) ?_ ?_ ?_
            rotate_left; rotate_left
            · intro w' hS; go_simp; with_reducible rfl
            · simp only [Act.put, List.setIfInBounds_toArray, List.set_cons_zero, List.set_cons_succ]; rfl
            refine seq_take (v := ?_) (a' := ?_) (some 39) rfl rfl (by rfl) ?_ ?_ ?_
            rotate_left; rotate_left
            · intro w' hS; have q0 := cb hS d0; have q2 := cb hS k1; have q3 := cb hS k2; have q4 := cb hS k3; have q6 := cb hS m1; have q7 := cb hS m2; have q8 := cb hS m3; go_simp; with_reducible rfl
            · simp only [Act.put, List.setIfInBounds_toArray, List.set_cons_zero, List.set_cons_succ]; rfl
            refine seq_take (v := ?_) (a' := ?_) (some 40) rfl rfl (by rfl) ?_ ?_ ?_
            rotate_left; rotate_left
            · intro w' hS; go_simp; with_reducible rfl
            · simp only [Act.put, List.setIfInBounds_toArray, List.set_cons_zero, List.set_cons_succ]; rfl
            refine seq_take (v := ?_) (a' := ?_) (some 41) rfl rfl (by rfl) ?_ ?_ ?_
            rotate_left; rotate_left
            · intro w' hS; go_simp; with_reducible rfl
            · simp only [Act.put, List.setIfInBounds_toArray, List.set_cons_zero, List.set_cons_succ]; rfl
            refine seq_take (v := ?_) (a' := ?_) (some 42) rfl rfl (by rfl) ?_ ?_ ?_
            rotate_left; rotate_left
            · intro w' hS; have q0 := cb hS d0; have q2 := cb hS k1; have q3 := cb hS k2; have q4 := cb hS k3; have q6 := cb hS m1; have q7 := cb hS m2; have q8 := cb hS m3; go_simp; with_reducible rfl
            · simp only [Act.put, List.setIfInBounds_toArray, List.set_cons_zero, List.set_cons_succ]; rfl
            refine seq_take (v := ?_) (a' := ?_) (some 43) rfl rfl (by rfl) ?_ ?_ ?_
            rotate_left; rotate_left
            · intro w' hS; go_simp; exact keyNe' _ _ _ _ _ _ _ HSK.out
            · simp only [Act.put, List.setIfInBounds_toArray, List.set_cons_zero, List.set_cons_succ]; rfl
            refine seq_take (v := ?_) (a' := ?_) (some 44) rfl rfl (by rfl) ?_ ?_ ?_
            rotate_left; rotate_left
            · intro w' hS; go_simp; with_reducible rfl
            · simp only [Act.put, List.setIfInBounds_toArray, List.set_cons_zero, List.set_cons_succ]; rfl
            refine seq_take (v := ?_) (a' := ?_) (some 4) rfl rfl (by rfl) ?_ ?_ ?_
            rotate_left; rotate_left
            · intro w' hS; go_simp; with_reducible rfl
            · simp only [Act.put, List.setIfInBounds_toArray, List.set_cons_zero, List.set_cons_succ]; rfl
            refine seq_done ?_
            go_wp2_with fail
            go_roundw
            case rel => exact ⟨m + 1, ⟨by simp, by rw [HN.out]; rfl⟩, by omega, by omega, bl_next HB1.out hB⟩
            case measure => simp [intOf]; omega
        · obtain rfl : m = l.length := by omega
          rw [lastTo_all]
          obtain ⟨lb, hlb⟩ : ∃ lb, lastB l k = lb := ⟨_, rfl⟩
          obtain ⟨sb, hsb⟩ : ∃ sb, stB l cov k = sb := ⟨_, rfl⟩
          rw [hlb]
          have HLB := Lib.hid hlb
          have HSB := Lib.hid hsb
          clear hlb hsb
          cases lb with
          | false =>
            go_wp2_with (go_at_call 61; refine (rsettled_calls _ (H.out.below hB) k hkl hl).mono ?_; rintro e w' ⟨rfl, hb⟩; rw [HSB.out]; have hB := bl_next hB hb; clear hb)
            go_roundw
            case rel => exact ⟨k + 1, by simp, by omega, by rw [setTo_succ, HST.out, HLB.out]; rfl, hB⟩
            case measure => simp [intOf]; omega
          | true =>
            cases sb with
            | true =>
              go_wp2_with (go_at_call 61; refine (rsettled_calls _ (H.out.below hB) k hkl hl).mono ?_; rintro e w' ⟨rfl, hb⟩; rw [HSB.out]; have hB := bl_next hB hb; clear hb)
              go_roundw
              case rel => exact ⟨k + 1, by simp, by omega, by rw [setTo_succ, HST.out, HSB.out]; simp, hB⟩
              case measure => simp [intOf]; omega
            | false =>
              go_wp2_with (go_at_call 61; refine (rsettled_calls _ (H.out.below hB) k hkl hl).mono ?_; rintro e w' ⟨rfl, hb⟩; rw [HSB.out]; have hB := bl_next hB hb; clear hb)
              go_ret
              exact ⟨ret_bool (setTo_false hkl HLB.out HSB.out).symm, hB⟩
    · obtain rfl : k = l.length := by omega
      go_wp2
      go_ret
      exact ⟨ret_bool (show true = setTo l cov l.length from HST.out.symm), hB⟩
/-- The open ones below k. -/
def openMto (l : List Item) (cov k : Nat) : List Nat := (openTo l cov k).filter fun i => decide ((itemAt l i).st = 0)
theorem openMto_all (l : List Item) (cov : Nat) : openMto l cov l.length = openM l cov := rfl
theorem openMto_succ (l : List Item) (cov k : Nat) : openMto l cov (k + 1) = if !stB l cov k && decide ((itemAt l k).st = 0) then openMto l cov k ++ [k] else openMto l cov k := by
  unfold openMto; rw [openTo_succ]
  cases stB l cov k <;> cases h : decide ((itemAt l k).st = 0) <;> simp [h]
theorem openMto_length (l : List Item) (cov k : Nat) : (openMto l cov k).length ≤ k := Nat.le_trans (List.length_filter_le _ _) (openTo_length l cov k)
def natC (l : List Nat) : List Value := l.map fun i => .int .i64 ((i : Nat) : Int)
theorem natC_length (l : List Nat) : (natC l).length = l.length := by simp [natC]
set_option maxRecDepth 100000 in
set_option maxHeartbeats 8000000 in
theorem ropen_calls {base rb : Nat} {kv iv : Value} {l : List Item} {cov : Nat} (w : World) (h : RefAt w base rb kv iv l cov) (hl : l.length ≤ 1000000) :
    Calls Try.prog 19 #[.pointer (some ⟨rb, 0, none⟩)] w fun e w' => ∃ u, e = .returned u ∧ w'.ownsRow w.heap.size 3 1 u (openM l cov).length (natC (openM l cov)) ∧ Below w.heap.size w w' := by
  have hB := Below.refl w.heap.size w
  obtain ⟨ak, ck, ai, ci, rfl, rfl⟩ := h.lens
  have H := Lib.hid h
  have c0 := blk_cell h.box 0
  have c1 := blk_cell h.box 1
  clear h
  go_enter Try.func19, Try.ntmps19
  go_wp2
  go_loopw [3, 4] (fun s i wr => ∃ (k : Nat) (u : Value), (i = .int .i64 k ∧ s = u) ∧ k ≤ l.length ∧ wr.ownsRow w.heap.size 3 1 u (openMto l cov k).length (natC (openMto l cov k)) ∧ Below w.heap.size w wr) (fun _ i _ => l.length - (intOf i).toNat)
  case atStart => exact ⟨0, _, ⟨rfl, rfl⟩, Nat.zero_le _, World.ownsRow_nil _ _ _ _, hB⟩
  case round =>
    obtain ⟨k, u, ⟨rfl, rfl⟩, hk, hrow, hB⟩ := hrel
    have d0 := cb hB c0; have d1 := cb hB c1
    by_cases hkl : k < l.length
    · have hkI : (k : Int) < l.length := by omega
      obtain ⟨gk', ck', gi', ci', hkv, hiv, k0, -, -, -, -⟩ := (H.out.below hB).at' hkl
      cases hkv; cases hiv
      obtain ⟨sb, hsb⟩ : ∃ sb, stB l cov k = sb := ⟨_, rfl⟩
      have HSB := Lib.hid hsb
      have HN := Lib.hid (openMto_succ l cov k)
      have hlen := openMto_length l cov k
      obtain ⟨st, hst⟩ : ∃ st, (itemAt l k).st = st := ⟨_, rfl⟩
      rw [hst] at k0
      have HSTT := Lib.hid hst
      clear hsb hst
      by_cases hz : st = 0
      · subst hz
        cases sb with
        | true =>
          have HN2 := Lib.hid (show openMto l cov (k + 1) = openMto l cov k by rw [HN.out, HSB.out]; rfl)
          have HROW := Lib.hid hrow
          clear hrow
          go_wp2_with (go_at_call 61; refine (rsettled_calls _ (H.out.below hB) k hkl hl).mono ?_; rintro e w' ⟨rfl, hb⟩; rw [HSB.out]; have d1 := cb hb d1; have k0 := cb hb k0; have HROW' := Lib.hid (rw_below HROW.out hb); have hB := bl_next hB hb; clear hb HROW)
          go_roundw
          case rel => exact ⟨k + 1, _, ⟨by simp, rfl⟩, by omega, by rw [HN2.out]; exact HROW'.out, hB⟩
          case measure => simp [intOf]; omega
        | false =>
          have HN2 := Lib.hid (show openMto l cov (k + 1) = openMto l cov k ++ [k] by rw [HN.out, HSB.out, HSTT.out]; rfl)
          have HROW := Lib.hid hrow
          clear hrow
          go_wp2_with (first | (go_at_call 61; refine (rsettled_calls _ (H.out.below hB) k hkl hl).mono ?_; rintro e w' ⟨rfl, hb⟩; rw [HSB.out]; have d1 := cb hb d1; have k0 := cb hb k0; have HROW' := Lib.hid (rw_below HROW.out hb); have hB := bl_next hB hb; clear hb HROW) | (at_builtin; refine apr_int rfl (.tmp 30) (.tmp 32) rfl w.heap.size 3 _ (openMto l cov k).length (natC (openMto l cov k)) (k : Int) rfl HROW'.out 1 rfl hB.size (by omega) ?_; intro g2 cap2 w5 hown hk4 hat; have HR2 := Lib.hid hown; have hB := hB.trans (hk4.below hB.size (fun q hq => (rw_type HROW'.out hq).1)); clear hown hk4 hat HROW'))
          go_roundw
          case rel => exact ⟨k + 1, _, ⟨by simp, rfl⟩, by omega, by rw [HN2.out]; simpa [natC] using HR2.out, hB⟩
          case measure => simp [intOf]; omega
      · have hzz : ¬ st = 0 := hz
        have hzb : ((st : Int) == 0) = false := by simp; omega
        have HN2 := Lib.hid (show openMto l cov (k + 1) = openMto l cov k by rw [HN.out, HSTT.out]; simp [hz])
        have HROW := Lib.hid hrow
        clear hrow
        go_wp2_with (go_at_call 61; refine (rsettled_calls _ (H.out.below hB) k hkl hl).mono ?_; rintro e w' ⟨rfl, hb⟩; rw [HSB.out]; have d1 := cb hb d1; have k0 := cb hb k0; have HROW' := Lib.hid (rw_below HROW.out hb); have hB := bl_next hB hb; clear hb HROW)
        go_roundw
        case rel => exact ⟨k + 1, _, ⟨by simp, rfl⟩, by omega, by rw [HN2.out]; exact HROW'.out, hB⟩
        case measure => simp [intOf]; omega
    · obtain rfl : k = l.length := by omega
      have HROW := Lib.hid hrow
      clear hrow
      go_wp2
      go_ret
      exact ⟨_, rfl, HROW.out, hB⟩
set_option maxRecDepth 100000 in
set_option maxHeartbeats 8000000 in
theorem rints_same (w : World) {b1 b2 : Nat} {u v : Value} {l : List Nat} (hu : w.ownsRow b1 3 1 u l.length (natC l)) (hv : w.ownsRow b2 3 1 v l.length (natC l)) (hl : l.length ≤ 1000000) :
    Calls Try.prog 17 #[u, v] w fun e w' => e = .returned (.bool true) ∧ Below w.heap.size w w' := by
  have hB := Below.refl w.heap.size w
  have HU := Lib.hid hu
  have HV := Lib.hid hv
  obtain ⟨au, cu, rfl⟩ := rw_form hu
  obtain ⟨av, cv, rfl⟩ := rw_form hv
  clear hu hv
  go_enter Try.func17, Try.ntmps17
  go_wp2
  go_loopw [5] (fun i wr => ∃ k : Nat, i = .int .i64 k ∧ k ≤ l.length ∧ Below w.heap.size w wr) (fun i _ => l.length - (intOf i).toNat)
  case atStart => exact ⟨0, rfl, Nat.zero_le _, hB⟩
  case round =>
    obtain ⟨k, rfl, hk, hB⟩ := hrel
    by_cases hkl : k < l.length
    · have hkI : (k : Int) < l.length := by omega
      obtain ⟨gu, cu', hgu⟩ := rw_pos HU.out (by omega)
      obtain ⟨gv, cv', hgv⟩ := rw_pos HV.out (by omega)
      cases hgu
      cases hgv
      obtain ⟨x, hx⟩ : ∃ x, l[k]'hkl = x := ⟨_, rfl⟩
      have hg : (natC l).getD k undef = .int .i64 (x : Int) := by unfold natC; rw [List.getD_eq_getElem?_getD, List.getElem?_map, List.getElem?_eq_getElem hkl, hx]; rfl
      have q0 := cb hB (((rw_cells HU.out).2.2.1 k (by omega)).trans (congrArg some hg))
      have q1 := cb hB (((rw_cells HV.out).2.2.1 k (by omega)).trans (congrArg some hg))
      clear hg hx
      have HB0 := Lib.hid hB
      obtain ⟨V, rfl⟩ : ∃ V : World, V = wr := ⟨_, rfl⟩
      have hB := Below.refl V.heap.size V
      go_upto_region 6 with fail
      have hB := hB.drew
      refine region_seq (fun w' => Below V.heap.size V w') [(0, true), (1, true), (2, true), (3, true), (4, true), (5, true), (6, true), (7, true), (8, true)] (by kernel_rfl) (by kernel_rfl) (fun _ _ _ _ h => h) hB ?_
      try generalize World.drew _ = wS at hB ⊢
      refine seq_take (v := ?_) (a' := ?_) (some 17) rfl rfl (by rfl) ?_ ?_ ?_
      rotate_left; rotate_left
      · intro w' hS; go_simp; with_reducible rfl
      · simp only [Act.put, List.setIfInBounds_toArray, List.set_cons_zero, List.set_cons_succ]; rfl
      refine seq_take (v := ?_) (a' := ?_) (some 18) rfl rfl (by rfl) ?_ ?_ ?_
      rotate_left; rotate_left
      · intro w' hS; go_simp; with_reducible rfl
      · simp only [Act.put, List.setIfInBounds_toArray, List.set_cons_zero, List.set_cons_succ]; rfl
      refine seq_take (v := ?_) (a' := ?_) (some 19) rfl rfl (by rfl) ?_ ?_ ?_
      rotate_left; rotate_left
      · intro w' hS; go_simp; with_reducible rfl
      · simp only [Act.put, List.setIfInBounds_toArray, List.set_cons_zero, List.set_cons_succ]; rfl
      refine seq_take (v := ?_) (a' := ?_) (some 20) rfl rfl (by rfl) ?_ ?_ ?_
      rotate_left; rotate_left
      · intro w' hS; have p0 := cb hS q0; have p1 := cb hS q1; go_simp; with_reducible rfl
      · simp only [Act.put, List.setIfInBounds_toArray, List.set_cons_zero, List.set_cons_succ]; rfl
      refine seq_take (v := ?_) (a' := ?_) (some 21) rfl rfl (by rfl) ?_ ?_ ?_
      rotate_left; rotate_left
      · intro w' hS; go_simp; with_reducible rfl
      · simp only [Act.put, List.setIfInBounds_toArray, List.set_cons_zero, List.set_cons_succ]; rfl
      refine seq_take (v := ?_) (a' := ?_) (some 22) rfl rfl (by rfl) ?_ ?_ ?_
      rotate_left; rotate_left
      · intro w' hS; go_simp; with_reducible rfl
      · simp only [Act.put, List.setIfInBounds_toArray, List.set_cons_zero, List.set_cons_succ]; rfl
      refine seq_take (v := ?_) (a' := ?_) (some 23) rfl rfl (by rfl) ?_ ?_ ?_
      rotate_left; rotate_left
      · intro w' hS; go_simp; with_reducible rfl
      · simp only [Act.put, List.setIfInBounds_toArray, List.set_cons_zero, List.set_cons_succ]; rfl
      refine seq_take (v := ?_) (a' := ?_) (some 24) rfl rfl (by rfl) ?_ ?_ ?_
      rotate_left; rotate_left
      · intro w' hS; have p0 := cb hS q0; have p1 := cb hS q1; go_simp; with_reducible rfl
      · simp only [Act.put, List.setIfInBounds_toArray, List.set_cons_zero, List.set_cons_succ]; rfl
      refine seq_take (v := ?_) (a' := ?_) (some 25) rfl rfl (by rfl) ?_ ?_ ?_
      rotate_left; rotate_left
      · intro w' hS; go_simp; with_reducible rfl
      · simp only [Act.put, List.setIfInBounds_toArray, List.set_cons_zero, List.set_cons_succ]; rfl
      refine seq_done ?_
      go_wp2_with fail
      go_roundw
      case rel => exact ⟨k + 1, by simp, by omega, bl_next HB0.out hB⟩
      case measure => simp [intOf]; omega
    · obtain rfl : k = l.length := by omega
      go_wp2
      go_ret
      exact ⟨rfl, hB⟩
end Go.Proofs.Ytdcceaafiammfaa

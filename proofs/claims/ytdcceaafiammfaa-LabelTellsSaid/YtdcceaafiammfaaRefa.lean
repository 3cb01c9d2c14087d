import Derived.Test.YtdcceaafiammfaaLbl
namespace Go.Proofs.Ytdcceaafiammfaa
open Go.RowKit
set_option maxHeartbeats 800000 in
theorem refRight_calls (s : ByteArray) (w : World) (hs : s.size ≤ 1073741824000) :
    Calls Try.prog 31 #[.string s] w fun e w' => e = .returned (.bool (rightB s)) ∧ ∃ n, w' = w.drewN n := by
  go_enter Try.func31, Try.ntmps31
  by_cases h1 : 1 ≤ s.size
  · by_cases h2 : s.size ≤ 24
    · go_wp2
      go_loop [4, 5] (fun i _ => ∃ k : Nat, i = .int .i64 k ∧ k ≤ s.size ∧ lettersTo s k = true) (fun i _ => s.size - (intOf i).toNat)
      case atStart => exact ⟨0, rfl, by omega, rfl⟩
      case round =>
        obtain ⟨k, rfl, hk, hl⟩ := hrel
        have HL := Lib.hid hl; clear hl
        by_cases hlt : k < s.size
        · go_wp2
          all_goals first | (go_round; (case rel => exact ⟨k + 1, by go_num, by omega, by rw [lettersTo_snoc s k hlt, HL.out]; simp only [Bool.true_and]; clear HL; simp_all [signB] <;> omega⟩); (case measure => simp [intOf]; omega)) | (go_ret; exact ⟨ret_bool (right_no s k hlt (by clear HL; simp_all [signB] <;> omega)).symm, dn_self _⟩)
        · obtain rfl : k = s.size := by omega
          go_wp2
          · go_ret
            exact ⟨ret_bool (by rw [right_bytes s h1 h2 HL.out, byteAt_eq s 0 ‹_›]; simp [*]), dn_self _⟩
          · go_ret
            exact ⟨ret_bool (by rw [right_bytes s h1 h2 HL.out, byteAt_eq s 0 ‹_›, byteAt_eq s (s.size - 1) (by omega)]; simp [bne]), dn_self _⟩
    · go_wp2
      go_ret
      exact ⟨ret_bool (right_short s (by omega)).symm, dn_self _⟩
  · go_wp2
    go_ret
    exact ⟨ret_bool (right_short s (by omega)).symm, dn_self _⟩
theorem refKey_calls (k s n : ByteArray) (w : World) (hk : k.size ≤ 1073741824000) (hs : s.size ≤ 1073741824000) (hn : n.size ≤ 1073741824000) :
    Calls Try.prog 33 #[.agg #[.string k, .string s, .string n]] w fun e w' => e = .returned (.bool (keyB k s n)) ∧ Below w.heap.size w w' := by
  go_enter Try.func33, Try.ntmps33
  go_wp2_with (go_at_call 31; refine (refRight_calls _ _ (by assumption)).mono ?_; rintro e w' ⟨rfl, nd, rfl⟩)
  all_goals go_ret
  all_goals exact ⟨ret_bool (by simp_all [keyB]), bl_dN ((Below.refl _ _).alloc (Nat.le_refl _) _) _⟩
theorem refText_calls (k s n : ByteArray) (w : World) (hk : k.size ≤ 1073741824) (hs : s.size ≤ 1073741824) (hn : n.size ≤ 1073741824) :
    Calls Try.prog 35 #[.agg #[.string k, .string s, .string n]] w fun e w' => e = .returned (.string (textB k s n)) ∧ Below w.heap.size w w' := by
  go_enter Try.func35, Try.ntmps35
  go_wp2_with fail
  first | with_reducible refine name_wp ?_ | with_reducible refine name_calls ?_
  intro W hWeq
  have g0 : W.heap[w.heap.size]? = some (.cells #[.string k, .string s, .string n] 35) := by rw [hWeq]; repeat (first | exact blk_newAt _ _ (by simp) | refine blk_old ?_ _ | refine blk_dN ?_ _ | refine blk_drew ?_)
  have hw : Below w.heap.size w W := by rw [hWeq]; repeat (first | exact Below.refl _ _ | refine Below.alloc ?_ (by simp) _ | refine bl_dN ?_ _ | refine Below.drew ?_)
  clear hWeq
  have hz : w.heap.size + 1 ≤ W.heap.size := by have := blk_lt g0; omega
  have c0_0 : W.cell? ⟨w.heap.size, 0, none⟩ = some (.string k) := blk_cell g0 0
  have c0_1 : W.cell? ⟨w.heap.size, 1, none⟩ = some (.string s) := blk_cell g0 1
  have c0_2 : W.cell? ⟨w.heap.size, 2, none⟩ = some (.string n) := blk_cell g0 2
  have f0 : ∀ j, W.frozen? ⟨w.heap.size, j, none⟩ = false := blk_free g0
  have hB : Below W.heap.size W W := Below.refl _ _
  have G0 := Lib.hid g0; clear g0
  have F0 := Lib.hid f0; clear f0
  have Hw := Lib.hid hw; clear hw
  go_wp2_with (first | (go_at_call 33; refine (refKey_calls _ _ _ _ (by omega) (by omega) (by omega)).mono ?_; rintro e w' ⟨rfl, hb⟩; have hB := bl_next (by repeat (first | exact hB | refine Below.alloc ?_ (by have := hB.size; simp; omega) _ | refine bl_dN ?_ _ | refine Below.drew ?_ | refine Below.setCell ?_ (by have := hB.size; simp; omega) _)) hb; clear hb; have k0_0 := cb hB c0_0; have k0_1 := cb hB c0_1; have k0_2 := cb hB c0_2; have kz0 : w.heap.size < _ := lt_of_cell k0_0))
  all_goals go_ret
  all_goals exact ⟨ret_str (by simp_all [textB, keyText]), bl_from Hw.out hB⟩
set_option maxHeartbeats 800000 in
theorem refLess_calls (k s n k' s' n' : ByteArray) (w : World) (h : k.size + s.size + n.size ≤ 1073741824) (h' : k'.size + s'.size + n'.size ≤ 1073741824) :
    Calls Try.prog 37 #[.agg #[.string k, .string s, .string n], .agg #[.string k', .string s', .string n']] w fun e w' => e = .returned (.bool (Op.bytesLess (keyText k s n).toList (keyText k' s' n').toList)) ∧ Below w.heap.size w w' := by
  have e1 : (keyText k s n).size ≤ 1073741824000 := by rw [keyText_size]; omega
  have e2 : (keyText k' s' n').size ≤ 1073741824000 := by rw [keyText_size]; omega
  have E1 := Lib.hid e1; have E2 := Lib.hid e2; clear e1 e2
  go_enter Try.func37, Try.ntmps37
  go_wp2_with fail
  refine (before_calls _ _ _ E1.out E2.out).mono ?_; rintro e w' ⟨rfl, nd, rfl⟩
  go_wp2
  go_ret
  exact ⟨rfl, bl_dN (((Below.refl _ _).alloc (Nat.le_refl _) _).alloc (by simp) _) _⟩
theorem part_calls (s : ByteArray) (i : Int) (w : World) (h0 : 0 ≤ i) (h1 : i ≤ s.size) (hs : s.size ≤ 1073741824000) :
    Calls Try.prog 64 #[.string s, .int .i64 i] w fun e w' => e = .returned (.tuple #[.string (s.extract i.toNat (findAt s 47 i.toNat)), .int .i64 (findAt s 47 i.toNat)]) ∧ ∃ n, w' = w.drewN n := by
  obtain ⟨m, rfl⟩ := Int.eq_ofNat_of_zero_le h0
  rw [Int.toNat_natCast]
  have hm : m ≤ s.size := by omega
  go_enter Try.func64, Try.ntmps64
  go_wp2
  go_loop [6] (fun i => ∃ k : Nat, i = .int .i64 k ∧ m ≤ k ∧ k ≤ s.size ∧ findAt s 47 k = findAt s 47 m) (fun i => s.size - (intOf i).toNat)
  case atStart => exact ⟨m, rfl, by omega, by omega, rfl⟩
  case round =>
    obtain ⟨k, rfl, hk1, hk2, he⟩ := hrel
    have HE := Lib.hid he; clear he
    by_cases hlt : k < s.size
    · go_wp2
      · go_round
        have hne : s[k] ≠ 47 := by
          intro e; have h : (((s[k]'hlt).toNat : Int) != 47) = true := by assumption
          rw [e] at h; simp at h
        case rel => exact ⟨k + 1, by go_num, by omega, by omega, by rw [← HE.out, findAt_lt s 47 k hlt, if_neg hne]⟩
        case measure => simp [intOf]; omega
      · have heq : s[k] = 47 := by
          have h : (((s[k]'hlt).toNat : Int) != 47) = false := by assumption
          exact UInt8.toNat_inj.1 (by simp at h; show s[k].toNat = 47; omega)
        have e : findAt s 47 m = k := by rw [← HE.out, findAt_lt s 47 k hlt, if_pos heq]
        go_ret2
        exact ⟨ret2 (vstr (by rw [e])) (vint (by rw [e])), dn_self _⟩
    · go_wp2
      have e : findAt s 47 m = k := by rw [← HE.out, findAt_end s 47 k (by omega)]; omega
      go_ret2
      exact ⟨ret2 (vstr (by rw [e])) (vint (by rw [e])), dn_self _⟩
theorem right_empty : rightB ⟨#[]⟩ = false := right_short _ (Or.inl (by decide))
theorem ok_no1 (s : ByteArray) (h : ¬ findAt s 47 0 < s.size) : parseOk s = false := by
  have : pK s = ⟨#[]⟩ := by rw [pK, cutB_none h]; exact cutA_none (by have e : (⟨#[]⟩ : ByteArray).size = 0 := rfl; omega)
  simp [parseOk, keyB, this, right_empty]
theorem ok_no2 (s : ByteArray) (h : ¬ findAt (cutB s 47) 47 0 < (cutB s 47).size) : parseOk s = false := by
  have : pN s = ⟨#[]⟩ := cutB_none h
  simp [parseOk, keyB, this, right_empty]
theorem parts_eq (s : ByteArray) (i k : Nat) (hi : findAt s 47 0 = i) (hlt : i < s.size) (hk : findAt s 47 (i + 1) = k) :
    (cutB s 47).size = s.size - (i + 1) ∧ findAt (cutB s 47) 47 0 = k - (i + 1) ∧ i + 1 ≤ k ∧ k ≤ s.size ∧ s.extract 0 i = pS s ∧ s.extract (i + 1) k = pK s ∧ (k < s.size → s.extract (k + 1) s.size = pN s) := by
  have hz : (cutB s 47).size = s.size - (i + 1) := by simp [cutB, hi]
  have hf := findAt_extract s 47 (i + 1) (by omega) 0
  have hle := findAt_le s 47 (i + 1)
  have e : s.extract (i + 1) s.size = cutB s 47 := by rw [cutB, hi]
  rw [Nat.add_zero, hk, e] at hf
  refine ⟨hz, by omega, by omega, by omega, by rw [pS, cutA, hi], ?_, fun hk2 => ?_⟩
  · rw [pK, cutA, ← e, extract_extract s (i + 1) 0 _ (by omega) (by rw [e]; omega), e]; congr 1
  · rw [pN, cutB]
    rw [← e, extract_extract s (i + 1) _ _ (by omega) (by simp), e]
    congr 1
    · omega
    · simp [hz]; omega
set_option maxHeartbeats 1600000 in
theorem refParse_calls (s : ByteArray) (w : World) (hs : s.size ≤ 1073741824) :
    Calls Try.prog 29 #[.string s] w fun e w' => e = .returned (parseV s) ∧ Below w.heap.size w w' := by
  obtain ⟨i, hi⟩ : ∃ i, findAt s 47 0 = i := ⟨_, rfl⟩
  obtain ⟨k, hk⟩ : ∃ k, findAt s 47 (i + 1) = k := ⟨_, rfl⟩
  have hle := findAt_le s 47 0
  rw [hi] at hle
  by_cases h1 : i < s.size
  · have hP := parts_eq s i k hi h1 hk
    have p1 := hP.2.2.1; have p2 := hP.2.2.2.1
    have HP := Lib.hid hP; clear hP
    have HI := Lib.hid hi; have HK := Lib.hid hk; clear hi hk
    by_cases h2 : k < s.size
    · go_enter Try.func29, Try.ntmps29
      go_wp2_with fail
      refine (part_calls _ _ _ (by omega) (by omega) (by omega)).mono ?_; rintro e w' ⟨rfl, n, rfl⟩
      rw [show (0 : Int).toNat = 0 from rfl, HI.out]
      go_wp2_with fail
      refine (part_calls _ _ _ (by omega) (by omega) (by omega)).mono ?_; rintro e w' ⟨rfl, n, rfl⟩
      rw [show ((i : Int) + 1).toNat = i + 1 from by omega, HK.out]
      have x1 : s.extract 0 i = pS s := HP.out.2.2.2.2.1
      have x2 : s.extract (i + 1) k = pK s := HP.out.2.2.2.2.2.1
      have x3 : s.extract (k + 1) s.size = pN s := HP.out.2.2.2.2.2.2 h2
      have X1 := Lib.hid x1; have X2 := Lib.hid x2; have X3 := Lib.hid x3; clear x1 x2 x3
      have y1 : (s.extract 0 i).size ≤ 1073741824 := by simp; omega
      have y2 : (s.extract (i + 1) k).size ≤ 1073741824 := by simp; omega
      have y3 : (s.extract (k + 1) s.size).size ≤ 1073741824 := by simp; omega
      have Y1 := Lib.hid y1; have Y2 := Lib.hid y2; have Y3 := Lib.hid y3; clear y1 y2 y3
      go_wp2_with fail
      rw [X1.out, X2.out, X3.out]
      rw [X1.out] at Y1; rw [X2.out] at Y2; rw [X3.out] at Y3
      first | with_reducible refine name_wp ?_ | with_reducible refine name_calls ?_
      intro W hWeq
      have g0 : W.heap[w.heap.size]? = some (.cells #[.string ⟨#[]⟩, .string ⟨#[]⟩, .string ⟨#[]⟩] 35) := by rw [hWeq]; repeat (first | exact blk_newAt _ _ (by simp) | refine blk_old ?_ _ | refine blk_dN ?_ _ | refine blk_drew ?_)
      have g1 : W.heap[w.heap.size + 1]? = some (.cells #[.string (pK s), .string (pS s), .string (pN s)] 35) := by rw [hWeq]; repeat (first | exact blk_newAt _ _ (by simp) | refine blk_old ?_ _ | refine blk_dN ?_ _ | refine blk_drew ?_)
      have hw : Below w.heap.size w W := by rw [hWeq]; repeat (first | exact Below.refl _ _ | refine Below.alloc ?_ (by simp) _ | refine bl_dN ?_ _ | refine Below.drew ?_)
      clear hWeq
      have hz : w.heap.size + 2 ≤ W.heap.size := by have := blk_lt g1; omega
      have c0_0 : W.cell? ⟨w.heap.size, 0, none⟩ = some (.string ⟨#[]⟩) := blk_cell g0 0
      have c0_1 : W.cell? ⟨w.heap.size, 1, none⟩ = some (.string ⟨#[]⟩) := blk_cell g0 1
      have c0_2 : W.cell? ⟨w.heap.size, 2, none⟩ = some (.string ⟨#[]⟩) := blk_cell g0 2
      have f0 : ∀ j, W.frozen? ⟨w.heap.size, j, none⟩ = false := blk_free g0
      have c1_0 : W.cell? ⟨w.heap.size + 1, 0, none⟩ = some (.string (pK s)) := blk_cell g1 0
      have c1_1 : W.cell? ⟨w.heap.size + 1, 1, none⟩ = some (.string (pS s)) := blk_cell g1 1
      have c1_2 : W.cell? ⟨w.heap.size + 1, 2, none⟩ = some (.string (pN s)) := blk_cell g1 2
      have f1 : ∀ j, W.frozen? ⟨w.heap.size + 1, j, none⟩ = false := blk_free g1
      have hB : Below W.heap.size W W := Below.refl _ _
      have G0 := Lib.hid g0; clear g0
      have F0 := Lib.hid f0; clear f0
      have G1 := Lib.hid g1; clear g1
      have F1 := Lib.hid f1; clear f1
      have Hw := Lib.hid hw; clear hw
      go_wp2_with (go_at_call 33; refine (refKey_calls _ _ _ _ (by have := Y2.out; omega) (by have := Y1.out; omega) (by have := Y3.out; omega)).mono ?_; rintro e w' ⟨rfl, hb⟩; have hB := bl_next (by repeat (first | exact hB | refine Below.alloc ?_ (by have := hB.size; simp; omega) _ | refine bl_dN ?_ _ | refine Below.drew ?_ | refine Below.setCell ?_ (by have := hB.size; simp; omega) _)) hb; clear hb; have k0_0 := cb hB c0_0; have k0_1 := cb hB c0_1; have k0_2 := cb hB c0_2; have k1_0 := cb hB c1_0; have k1_1 := cb hB c1_1; have k1_2 := cb hB c1_2; have kz0 : w.heap.size < _ := lt_of_cell k0_0; have kz1 : w.heap.size + 1 < _ := lt_of_cell k1_0; have kf0_0 := fb hB (lt_of_cell c0_0) (F0.out 0); have kf0_1 := fb hB (lt_of_cell c0_1) (F0.out 1); have kf0_2 := fb hB (lt_of_cell c0_2) (F0.out 2); have kf1_0 := fb hB (lt_of_cell c1_0) (F1.out 0); have kf1_1 := fb hB (lt_of_cell c1_1) (F1.out 1); have kf1_2 := fb hB (lt_of_cell c1_2) (F1.out 2))
      all_goals have hw0 := bl_from Hw.out hB
      · refine bodyPost_ret (v := .tuple #[.agg #[.string ⟨#[]⟩, .string ⟨#[]⟩, .string ⟨#[]⟩], .int .i64 2]) (by simp [results, Try.results29, go_sem, k0_0, k0_1, k0_2]) rfl ⟨?_, ?_⟩
        · simp_all [parseV, parseOk]
        · exact ((hw0.setCell (Nat.le_refl _) _).setCell (Nat.le_refl _) _).setCell (Nat.le_refl _) _
      · refine bodyPost_ret (v := .tuple #[.agg #[.string (pK s), .string (pS s), .string (pN s)], .int .i64 0]) (by simp [results, Try.results29, go_sem, k0_0, k0_1, k0_2]) rfl ⟨?_, ?_⟩
        · simp_all [parseV, parseOk]
        · exact ((hw0.setCell (Nat.le_refl _) _).setCell (Nat.le_refl _) _).setCell (Nat.le_refl _) _
    · have hno : parseOk s = false := ok_no2 s (by have := HP.out; omega)
      have HN := Lib.hid hno; clear hno
      go_enter Try.func29, Try.ntmps29
      go_wp2_with fail
      refine (part_calls _ _ _ (by omega) (by omega) (by omega)).mono ?_; rintro e w' ⟨rfl, n, rfl⟩
      rw [show (0 : Int).toNat = 0 from rfl, HI.out]
      go_wp2_with fail
      refine (part_calls _ _ _ (by omega) (by omega) (by omega)).mono ?_; rintro e w' ⟨rfl, n, rfl⟩
      rw [show ((i : Int) + 1).toNat = i + 1 from by omega, HK.out]
      go_wp2_with fail
      refine bodyPost_ret (v := .tuple #[.agg #[.string ⟨#[]⟩, .string ⟨#[]⟩, .string ⟨#[]⟩], .int .i64 2]) (by simp [results, Try.results29, go_sem]) rfl ⟨?_, ?_⟩
      · rw [parseV, HN.out]; rfl
      · (repeat (first | exact Below.refl _ _ | exact hw0 | refine Below.setCell ?_ (by simp) _ | refine Below.alloc ?_ (by simp) _ | refine bl_dN ?_ _ | refine Below.drew ?_))
  · have hno : parseOk s = false := ok_no1 s (by omega)
    have HN := Lib.hid hno; clear hno
    have HI := Lib.hid hi; clear hi hk
    go_enter Try.func29, Try.ntmps29
    go_wp2_with fail
    refine (part_calls _ _ _ (by omega) (by omega) (by omega)).mono ?_; rintro e w' ⟨rfl, n, rfl⟩
    rw [show (0 : Int).toNat = 0 from rfl, HI.out]
    go_wp2_with fail
    refine bodyPost_ret (v := .tuple #[.agg #[.string ⟨#[]⟩, .string ⟨#[]⟩, .string ⟨#[]⟩], .int .i64 2]) (by simp [results, Try.results29, go_sem]) rfl ⟨?_, ?_⟩
    · rw [parseV, HN.out]; rfl
    · (repeat (first | exact Below.refl _ _ | exact hw0 | refine Below.setCell ?_ (by simp) _ | refine Below.alloc ?_ (by simp) _ | refine bl_dN ?_ _ | refine Below.drew ?_))
end Go.Proofs.Ytdcceaafiammfaa

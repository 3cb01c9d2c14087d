import Derived.Test.YtdcceaafiammfaaLawb
namespace Go.Proofs.Ytdcceaafiammfaa
open Go.RowKit
theorem byteAt_data (s : ByteArray) (i : Nat) (h : i < s.size) : s.data.toList[i]? = some s[i] := getElem_data s i h
theorem lettersTo_all (s : ByteArray) : lettersTo s s.size = s.data.toList.all fun b => signB b.toNat := by
  rw [lettersTo, List.take_of_length_le (by simp)]
theorem app_size (s : ByteArray) (c : UInt8) : (s ++ ⟨#[c]⟩ : ByteArray).size = s.size + 1 := by rw [ByteArray.size_append]; rfl
theorem head_size (s : ByteArray) (c : UInt8) : (⟨#[c]⟩ ++ s : ByteArray).size = 1 + s.size := by rw [ByteArray.size_append]; rfl
theorem right_tail (s : ByteArray) (c : UInt8) (h : signB (c.toNat : Int) = false ∨ c = 45) : rightB (s ++ ⟨#[c]⟩) = false := by
  have hd : (s ++ ⟨#[c]⟩ : ByteArray).data.toList = s.data.toList ++ [c] := by simp
  have hz : (s ++ ⟨#[c]⟩ : ByteArray).size = s.size + 1 := by rw [ByteArray.size_append]; rfl
  rcases h with h | rfl
  · have : lettersTo (s ++ ⟨#[c]⟩) (s ++ ⟨#[c]⟩ : ByteArray).size = false := by rw [lettersTo_all, hd, List.all_append]; simp [h]
    rw [rightB, this]; rfl
  · have e := byteAt_data (s ++ ⟨#[45]⟩) s.size (by omega)
    rw [hd, List.getElem?_append_right (by simp)] at e
    have e' : byteAt (s ++ ⟨#[45]⟩) ((s ++ ⟨#[45]⟩ : ByteArray).size - 1) = 45 := by
      rw [hz, Nat.add_sub_cancel, byteAt_eq _ _ (by omega)]
      have : (s ++ ⟨#[45]⟩ : ByteArray)[s.size] = 45 := by simpa using e.symm
      rw [this]; rfl
    rw [rightB, e']; simp
theorem right_head (s : ByteArray) : rightB (⟨#[45]⟩ ++ s) = false := by
  have hd : (⟨#[45]⟩ ++ s : ByteArray).data.toList = 45 :: s.data.toList := by simp
  have hz : (⟨#[45]⟩ ++ s : ByteArray).size = 1 + s.size := by rw [ByteArray.size_append]; rfl
  have e := byteAt_data (⟨#[45]⟩ ++ s) 0 (by omega)
  rw [hd] at e
  have e' : byteAt (⟨#[45]⟩ ++ s) 0 = 45 := by
    rw [byteAt_eq _ _ (by omega)]
    have : (⟨#[45]⟩ ++ s : ByteArray)[0]'(by omega) = 45 := by simpa using e.symm
    rw [this]; rfl
  rw [rightB, e']; simp
theorem cut_join (s : ByteArray) (c : UInt8) (h : findAt s c 0 < s.size) : cutA s c ++ ⟨#[c]⟩ ++ cutB s c = s := by
  have h1 := findAt_is s c 0 h
  refine ba_ext ?_
  have e := getElem_data s (findAt s c 0) h
  rw [h1] at e
  have e2 : s.data.toList.drop (findAt s c 0) = c :: s.data.toList.drop (findAt s c 0 + 1) := by
    rw [List.drop_eq_getElem_cons (by simpa using h)]
    rw [(List.getElem?_eq_some_iff.1 e).2]
  simp only [cutA, cutB, ByteArray.data_append, Array.toList_append, ByteArray.data_extract, Array.toList_extract, List.extract_eq_take_drop, List.drop_zero, Nat.sub_zero]
  rw [List.take_of_length_le (l := s.data.toList.drop (findAt s c 0 + 1)) (by simp), List.append_assoc]
  simp only [List.cons_append, List.nil_append]
  rw [← e2, List.take_append_drop]
theorem text_parse (s : ByteArray) (h : parseOk s = true) : keyText (pK s) (pS s) (pN s) = s := by
  have h1 : findAt s 47 0 < s.size := Decidable.byContradiction fun hn => by rw [ok_no1 s hn] at h; simp at h
  have h2 : findAt (cutB s 47) 47 0 < (cutB s 47).size := Decidable.byContradiction fun hn => by rw [ok_no2 s hn] at h; simp at h
  rw [keyText_eq, pK, pN, cut_join _ _ h2, pS, cut_join _ _ h1]
theorem pv_yes {k s n : ByteArray} (h : keyB k s n = true) : parseV (keyText k s n) = .tuple #[.agg #[.string k, .string s, .string n], .int .i64 0] := by
  obtain ⟨h1, h2, h3⟩ := parse_text h
  have : parseOk (keyText k s n) = true := by rw [parseOk, h1, h2, h3]; exact h
  rw [parseV, this, h1, h2, h3]; rfl
theorem pv_none : parseV ⟨#[]⟩ = .tuple #[.agg #[.string ⟨#[]⟩, .string ⟨#[]⟩, .string ⟨#[]⟩], .int .i64 2] := by
  have h : parseOk ⟨#[]⟩ = false := by decide +kernel
  rw [parseV, h]; rfl
theorem pv_of {s : ByteArray} (h : parseOk s = true) : parseV s = .tuple #[.agg #[.string (pK s), .string (pS s), .string (pN s)], .int .i64 0] := by rw [parseV, h]; rfl
theorem pv_no {s : ByteArray} (h : parseOk s = false) : parseV s = .tuple #[.agg #[.string ⟨#[]⟩, .string ⟨#[]⟩, .string ⟨#[]⟩], .int .i64 2] := by rw [parseV, h]; rfl
theorem textB_yes {k s n : ByteArray} (h : keyB k s n = true) : textB k s n = keyText k s n := by rw [textB, h]; rfl
theorem textB_no {k s n : ByteArray} (h : keyB k s n = false) : textB k s n = ⟨#[]⟩ := by rw [textB, h]; rfl
theorem keyText_ne (k s n : ByteArray) : (keyText k s n).toList = [] ↔ False := by
  rw [Lib.toList_data]; simp [keyText]
theorem keyText_ne' (k s n : ByteArray) : (keyText k s n).toList.isEmpty = false := by
  rw [Lib.toList_data]; simp [keyText]
set_option maxHeartbeats 8000000 in
set_option maxRecDepth 100000 in
theorem labelBackWalk (s : ByteArray) (u : Value) {W : World} (hu : kStr.K W anyB s [u]) (y : Key) (c : List Value) (h : kKey.K W anyB y c) : Calls Try.prog 7 #[u, .agg c.toArray] W fun e w' => e = .returned (.bool true) ∧ Below W.heap.size W w' := by
  obtain ⟨k, p, n⟩ := y
  rw [kKey_cs h]; clear h
  obtain rfl : u = .string s := by simpa [kStr, kOne] using hu
  clear hu
  obtain ⟨w, rfl⟩ : ∃ w, w = W := ⟨_, rfl⟩
  go_enter Try.func7, Try.ntmps7
  go_wp2_with fail
  first | with_reducible refine name_wp ?_ | with_reducible refine name_calls ?_
  intro W hWeq
  have g0 : W.heap[w.heap.size]? = some (.cells #[.string k, .string p, .string n] 35) := by rw [hWeq]; repeat (first | exact blk_newAt _ _ (by simp) | refine blk_old ?_ _ | refine blk_dN ?_ _ | refine blk_drew ?_)
  have hw : Below w.heap.size w W := by rw [hWeq]; repeat (first | exact Below.refl _ _ | refine Below.alloc ?_ (by simp) _ | refine bl_dN ?_ _ | refine Below.drew ?_)
  clear hWeq
  have hz : w.heap.size + 1 ≤ W.heap.size := by have := blk_lt g0; omega
  have c0_0 : W.cell? ⟨w.heap.size, 0, none⟩ = some (.string k) := blk_cell g0 0
  have c0_1 : W.cell? ⟨w.heap.size, 1, none⟩ = some (.string p) := blk_cell g0 1
  have c0_2 : W.cell? ⟨w.heap.size, 2, none⟩ = some (.string n) := blk_cell g0 2
  have f0 : ∀ j, W.frozen? ⟨w.heap.size, j, none⟩ = false := blk_free g0
  have hB : Below W.heap.size W W := Below.refl _ _
  have G0 := Lib.hid g0; clear g0
  have F0 := Lib.hid f0; clear f0
  have Hw := Lib.hid hw; clear hw
  generalize hs : shortB k p n = sh
  have HS := Lib.hid hs; clear hs
  by_cases hl : s.size ≤ 200
  · cases sh with
    | false =>
      go_wp2_with (first | (go_at_call 26; refine (short_calls _ _ _ _).mono ?_; rintro e w' ⟨rfl, hb⟩; rw [HS.out]; have hB := bl_next hB hb; clear hb) | (go_at_call 27; refine (alive1_calls _).mono ?_; rintro e w' ⟨rfl, hb⟩; have hB := bl_next hB hb; clear hb))
      go_ret
      exact ⟨rfl, bl_from Hw.out hB⟩
    | true =>
      have hz := Key.short_sz (x := ⟨k, p, n⟩) HS.out
      simp only at hz
      cases hk : keyB k p n with
      | true => 
        have HK := Lib.hid hk; clear hk
        have zt : (keyText k p n).size ≤ 1073741824 := by rw [keyText_size]; omega
        have ne1 := keyText_ne k p n; have ne2 := keyText_ne' k p n
        have HT1 := Lib.hid (textB_yes HK.out); have HP1 := Lib.hid (pv_yes HK.out)
        go_wp2_with (first | (go_at_call 26; refine (short_calls _ _ _ _).mono ?_; rintro e w' ⟨rfl, hb⟩; rw [HS.out]; have hB := bl_next (by repeat (first | exact hB | refine Below.alloc ?_ (by have := hB.size; simp; omega) _ | refine bl_dN ?_ _ | refine Below.drew ?_ | refine Below.setCell ?_ (by have := hB.size; simp; omega) _)) hb; clear hb; have k0_0 := cb hB c0_0; have k0_1 := cb hB c0_1; have k0_2 := cb hB c0_2; have kz0 : w.heap.size < _ := lt_of_cell k0_0) | (go_at_call 34; refine (textK_calls _ _ _ _ (by omega) (by omega) (by omega)).mono ?_; rintro e w' ⟨rfl, hb⟩; rw [HT1.out]; have hB := bl_next (by repeat (first | exact hB | refine Below.alloc ?_ (by have := hB.size; simp; omega) _ | refine bl_dN ?_ _ | refine Below.drew ?_ | refine Below.setCell ?_ (by have := hB.size; simp; omega) _)) hb; clear hb; have k0_0 := cb hB c0_0; have k0_1 := cb hB c0_1; have k0_2 := cb hB c0_2; have kz0 : w.heap.size < _ := lt_of_cell k0_0) | (go_at_call 28; refine (parse_calls (keyText k p n) _ zt).mono ?_; rintro e w1 ⟨rfl, hb⟩; rw [HP1.out]; have hB := bl_next (by repeat (first | exact hB | refine Below.alloc ?_ (by have := hB.size; simp; omega) _ | refine bl_dN ?_ _ | refine Below.drew ?_ | refine Below.setCell ?_ (by have := hB.size; simp; omega) _)) hb; clear hb; have k0_0 := cb hB c0_0; have k0_1 := cb hB c0_1; have k0_2 := cb hB c0_2; have kz0 : w.heap.size < _ := lt_of_cell k0_0))
        first | with_reducible refine name_wp ?_ | with_reducible refine name_calls ?_
        intro V hWeq
        have g1 : V.heap[w1.heap.size]? = some (.cells #[.string k, .string p, .string n] 35) := by rw [hWeq]; repeat (first | exact blk_newAt _ _ (by simp) | refine blk_old ?_ _ | refine blk_dN ?_ _ | refine blk_drew ?_)
        have hWW : Below W.heap.size W V := by rw [hWeq]; exact (by repeat (first | exact hB | refine Below.alloc ?_ (by have := hB.size; simp; omega) _ | refine bl_dN ?_ _ | refine Below.drew ?_ | refine Below.setCell ?_ (by have := hB.size; simp; omega) _))
        have hw := bl_from Hw.out hWW
        clear Hw
        have c0_0 := cb hWW c0_0
        have c0_1 := cb hWW c0_1
        have c0_2 := cb hWW c0_2
        have hz : W.heap.size ≤ V.heap.size := hWW.size
        clear hWW hz
        clear hWeq
        have hz : w1.heap.size + 1 ≤ V.heap.size := by have := blk_lt g1; omega
        have c1_0 : V.cell? ⟨w1.heap.size, 0, none⟩ = some (.string k) := blk_cell g1 0
        have c1_1 : V.cell? ⟨w1.heap.size, 1, none⟩ = some (.string p) := blk_cell g1 1
        have c1_2 : V.cell? ⟨w1.heap.size, 2, none⟩ = some (.string n) := blk_cell g1 2
        have f1 : ∀ j, V.frozen? ⟨w1.heap.size, j, none⟩ = false := blk_free g1
        have hB : Below V.heap.size V V := Below.refl _ _
        have G1 := Lib.hid g1; clear g1
        have F1 := Lib.hid f1; clear f1
        have Hw := Lib.hid hw; clear hw
        have kz0 : w.heap.size < V.heap.size := lt_of_cell c0_0
        have kz1 : w1.heap.size < V.heap.size := lt_of_cell c1_0
        cases hq : parseOk s with
        | true =>
          have HQ := Lib.hid hq; clear hq
          have HP2 := Lib.hid (pv_of HQ.out)
          have hq' : keyB (pK s) (pS s) (pN s) = true := HQ.out
          have HT2 := Lib.hid ((textB_yes hq').trans (text_parse s HQ.out)); clear hq'
          have zq : (pK s).size ≤ 1073741824 ∧ (pS s).size ≤ 1073741824 ∧ (pN s).size ≤ 1073741824 := by
            have := cutA_size s 47; have := cutB_size s 47; have := cutA_size (cutB s 47) 47; have := cutB_size (cutB s 47) 47
            unfold pK pS pN; omega
          go_wp2_with (first | (go_at_call 32; refine (key_calls _ _ _ _ (by omega) (by omega) (by omega)).mono ?_; rintro e w' ⟨rfl, hb⟩; rw [HK.out]; have hB := bl_next (by repeat (first | exact hB | refine Below.alloc ?_ (by have := hB.size; simp; omega) _ | refine bl_dN ?_ _ | refine Below.drew ?_ | refine Below.setCell ?_ (by have := hB.size; simp; omega) _)) hb; clear hb; have k0_0 := cb hB c0_0; have k0_1 := cb hB c0_1; have k0_2 := cb hB c0_2; have k1_0 := cb hB c1_0; have k1_1 := cb hB c1_1; have k1_2 := cb hB c1_2; have kz0 : w.heap.size < _ := lt_of_cell k0_0; have kz1 : w1.heap.size < _ := lt_of_cell k1_0) | (go_at_call 28; refine (parse_calls s _ (by omega)).mono ?_; rintro e w' ⟨rfl, hb⟩; rw [HP2.out]; have hB := bl_next (by repeat (first | exact hB | refine Below.alloc ?_ (by have := hB.size; simp; omega) _ | refine bl_dN ?_ _ | refine Below.drew ?_ | refine Below.setCell ?_ (by have := hB.size; simp; omega) _)) hb; clear hb; have k0_0 := cb hB c0_0; have k0_1 := cb hB c0_1; have k0_2 := cb hB c0_2; have k1_0 := cb hB c1_0; have k1_1 := cb hB c1_1; have k1_2 := cb hB c1_2; have kz0 : w.heap.size < _ := lt_of_cell k0_0; have kz1 : w1.heap.size < _ := lt_of_cell k1_0) | (go_at_call 34; refine (textK_calls (pK s) (pS s) (pN s) _ zq.1 zq.2.1 zq.2.2).mono ?_; rintro e w' ⟨rfl, hb⟩; rw [HT2.out]; have hB := bl_next (by repeat (first | exact hB | refine Below.alloc ?_ (by have := hB.size; simp; omega) _ | refine bl_dN ?_ _ | refine Below.drew ?_ | refine Below.setCell ?_ (by have := hB.size; simp; omega) _)) hb; clear hb; have k0_0 := cb hB c0_0; have k0_1 := cb hB c0_1; have k0_2 := cb hB c0_2; have k1_0 := cb hB c1_0; have k1_1 := cb hB c1_1; have k1_2 := cb hB c1_2; have kz0 : w.heap.size < _ := lt_of_cell k0_0; have kz1 : w1.heap.size < _ := lt_of_cell k1_0) | (go_at_call 27; refine (alive1_calls _).mono ?_; rintro e w' ⟨rfl, hb⟩; have hB := bl_next (by repeat (first | exact hB | refine Below.alloc ?_ (by have := hB.size; simp; omega) _ | refine bl_dN ?_ _ | refine Below.drew ?_)) hb; clear hb) | (go_at_call 30; refine (right_calls _ _ (by first | (rw [app_size]; omega) | (rw [head_size]; omega))).mono ?_; rintro e w' ⟨rfl, hb⟩; (first | rw [right_head] | rw [right_tail s 65 (by decide)] | rw [right_tail s 32 (by decide)] | rw [right_tail s 47 (by decide)] | rw [right_tail s 45 (by decide)]); have hB := bl_next (by repeat (first | exact hB | refine Below.alloc ?_ (by have := hB.size; simp; omega) _ | refine bl_dN ?_ _ | refine Below.drew ?_)) hb; clear hb))
          go_ret
          exact ⟨rfl, bl_from Hw.out hB⟩
        | false =>
          have HQ := Lib.hid hq; clear hq
          have HP2 := Lib.hid (pv_no HQ.out)
          go_wp2_with (first | (go_at_call 32; refine (key_calls _ _ _ _ (by omega) (by omega) (by omega)).mono ?_; rintro e w' ⟨rfl, hb⟩; rw [HK.out]; have hB := bl_next (by repeat (first | exact hB | refine Below.alloc ?_ (by have := hB.size; simp; omega) _ | refine bl_dN ?_ _ | refine Below.drew ?_ | refine Below.setCell ?_ (by have := hB.size; simp; omega) _)) hb; clear hb; have k0_0 := cb hB c0_0; have k0_1 := cb hB c0_1; have k0_2 := cb hB c0_2; have k1_0 := cb hB c1_0; have k1_1 := cb hB c1_1; have k1_2 := cb hB c1_2; have kz0 : w.heap.size < _ := lt_of_cell k0_0; have kz1 : w1.heap.size < _ := lt_of_cell k1_0) | (go_at_call 28; refine (parse_calls s _ (by omega)).mono ?_; rintro e w' ⟨rfl, hb⟩; rw [HP2.out]; have hB := bl_next (by repeat (first | exact hB | refine Below.alloc ?_ (by have := hB.size; simp; omega) _ | refine bl_dN ?_ _ | refine Below.drew ?_ | refine Below.setCell ?_ (by have := hB.size; simp; omega) _)) hb; clear hb; have k0_0 := cb hB c0_0; have k0_1 := cb hB c0_1; have k0_2 := cb hB c0_2; have k1_0 := cb hB c1_0; have k1_1 := cb hB c1_1; have k1_2 := cb hB c1_2; have kz0 : w.heap.size < _ := lt_of_cell k0_0; have kz1 : w1.heap.size < _ := lt_of_cell k1_0) | (go_at_call 27; refine (alive1_calls _).mono ?_; rintro e w' ⟨rfl, hb⟩; have hB := bl_next (by repeat (first | exact hB | refine Below.alloc ?_ (by have := hB.size; simp; omega) _ | refine bl_dN ?_ _ | refine Below.drew ?_)) hb; clear hb) | (go_at_call 30; refine (right_calls _ _ (by first | (rw [app_size]; omega) | (rw [head_size]; omega))).mono ?_; rintro e w' ⟨rfl, hb⟩; (first | rw [right_head] | rw [right_tail s 65 (by decide)] | rw [right_tail s 32 (by decide)] | rw [right_tail s 47 (by decide)] | rw [right_tail s 45 (by decide)]); have hB := bl_next (by repeat (first | exact hB | refine Below.alloc ?_ (by have := hB.size; simp; omega) _ | refine bl_dN ?_ _ | refine Below.drew ?_)) hb; clear hb))
          go_ret
          exact ⟨rfl, bl_from Hw.out hB⟩
      | false =>
        have HK := Lib.hid hk; clear hk
        have HT1 := Lib.hid (textB_no HK.out); have HP1 := Lib.hid pv_none
        go_wp2_with (first | (go_at_call 26; refine (short_calls _ _ _ _).mono ?_; rintro e w' ⟨rfl, hb⟩; rw [HS.out]; have hB := bl_next (by repeat (first | exact hB | refine Below.alloc ?_ (by have := hB.size; simp; omega) _ | refine bl_dN ?_ _ | refine Below.drew ?_ | refine Below.setCell ?_ (by have := hB.size; simp; omega) _)) hb; clear hb; have k0_0 := cb hB c0_0; have k0_1 := cb hB c0_1; have k0_2 := cb hB c0_2; have kz0 : w.heap.size < _ := lt_of_cell k0_0) | (go_at_call 34; refine (textK_calls _ _ _ _ (by omega) (by omega) (by omega)).mono ?_; rintro e w' ⟨rfl, hb⟩; rw [HT1.out]; have hB := bl_next (by repeat (first | exact hB | refine Below.alloc ?_ (by have := hB.size; simp; omega) _ | refine bl_dN ?_ _ | refine Below.drew ?_ | refine Below.setCell ?_ (by have := hB.size; simp; omega) _)) hb; clear hb; have k0_0 := cb hB c0_0; have k0_1 := cb hB c0_1; have k0_2 := cb hB c0_2; have kz0 : w.heap.size < _ := lt_of_cell k0_0) | (go_at_call 28; refine (parse_calls ⟨#[]⟩ _ (by decide)).mono ?_; rintro e w1 ⟨rfl, hb⟩; rw [HP1.out]; have hB := bl_next (by repeat (first | exact hB | refine Below.alloc ?_ (by have := hB.size; simp; omega) _ | refine bl_dN ?_ _ | refine Below.drew ?_ | refine Below.setCell ?_ (by have := hB.size; simp; omega) _)) hb; clear hb; have k0_0 := cb hB c0_0; have k0_1 := cb hB c0_1; have k0_2 := cb hB c0_2; have kz0 : w.heap.size < _ := lt_of_cell k0_0))
        first | with_reducible refine name_wp ?_ | with_reducible refine name_calls ?_
        intro V hWeq
        have g1 : V.heap[w1.heap.size]? = some (.cells #[.string ⟨#[]⟩, .string ⟨#[]⟩, .string ⟨#[]⟩] 35) := by rw [hWeq]; repeat (first | exact blk_newAt _ _ (by simp) | refine blk_old ?_ _ | refine blk_dN ?_ _ | refine blk_drew ?_)
        have hWW : Below W.heap.size W V := by rw [hWeq]; exact (by repeat (first | exact hB | refine Below.alloc ?_ (by have := hB.size; simp; omega) _ | refine bl_dN ?_ _ | refine Below.drew ?_ | refine Below.setCell ?_ (by have := hB.size; simp; omega) _))
        have hw := bl_from Hw.out hWW
        clear Hw
        have c0_0 := cb hWW c0_0
        have c0_1 := cb hWW c0_1
        have c0_2 := cb hWW c0_2
        have hz : W.heap.size ≤ V.heap.size := hWW.size
        clear hWW hz
        clear hWeq
        have hz : w1.heap.size + 1 ≤ V.heap.size := by have := blk_lt g1; omega
        have c1_0 : V.cell? ⟨w1.heap.size, 0, none⟩ = some (.string ⟨#[]⟩) := blk_cell g1 0
        have c1_1 : V.cell? ⟨w1.heap.size, 1, none⟩ = some (.string ⟨#[]⟩) := blk_cell g1 1
        have c1_2 : V.cell? ⟨w1.heap.size, 2, none⟩ = some (.string ⟨#[]⟩) := blk_cell g1 2
        have f1 : ∀ j, V.frozen? ⟨w1.heap.size, j, none⟩ = false := blk_free g1
        have hB : Below V.heap.size V V := Below.refl _ _
        have G1 := Lib.hid g1; clear g1
        have F1 := Lib.hid f1; clear f1
        have Hw := Lib.hid hw; clear hw
        have kz0 : w.heap.size < V.heap.size := lt_of_cell c0_0
        have kz1 : w1.heap.size < V.heap.size := lt_of_cell c1_0
        cases hq : parseOk s with
        | true =>
          have HQ := Lib.hid hq; clear hq
          have HP2 := Lib.hid (pv_of HQ.out)
          have hq' : keyB (pK s) (pS s) (pN s) = true := HQ.out
          have HT2 := Lib.hid ((textB_yes hq').trans (text_parse s HQ.out)); clear hq'
          have zq : (pK s).size ≤ 1073741824 ∧ (pS s).size ≤ 1073741824 ∧ (pN s).size ≤ 1073741824 := by
            have := cutA_size s 47; have := cutB_size s 47; have := cutA_size (cutB s 47) 47; have := cutB_size (cutB s 47) 47
            unfold pK pS pN; omega
          go_wp2_with (first | (go_at_call 32; refine (key_calls _ _ _ _ (by omega) (by omega) (by omega)).mono ?_; rintro e w' ⟨rfl, hb⟩; rw [HK.out]; have hB := bl_next (by repeat (first | exact hB | refine Below.alloc ?_ (by have := hB.size; simp; omega) _ | refine bl_dN ?_ _ | refine Below.drew ?_ | refine Below.setCell ?_ (by have := hB.size; simp; omega) _)) hb; clear hb; have k0_0 := cb hB c0_0; have k0_1 := cb hB c0_1; have k0_2 := cb hB c0_2; have k1_0 := cb hB c1_0; have k1_1 := cb hB c1_1; have k1_2 := cb hB c1_2; have kz0 : w.heap.size < _ := lt_of_cell k0_0; have kz1 : w1.heap.size < _ := lt_of_cell k1_0) | (go_at_call 28; refine (parse_calls s _ (by omega)).mono ?_; rintro e w' ⟨rfl, hb⟩; rw [HP2.out]; have hB := bl_next (by repeat (first | exact hB | refine Below.alloc ?_ (by have := hB.size; simp; omega) _ | refine bl_dN ?_ _ | refine Below.drew ?_ | refine Below.setCell ?_ (by have := hB.size; simp; omega) _)) hb; clear hb; have k0_0 := cb hB c0_0; have k0_1 := cb hB c0_1; have k0_2 := cb hB c0_2; have k1_0 := cb hB c1_0; have k1_1 := cb hB c1_1; have k1_2 := cb hB c1_2; have kz0 : w.heap.size < _ := lt_of_cell k0_0; have kz1 : w1.heap.size < _ := lt_of_cell k1_0) | (go_at_call 34; refine (textK_calls (pK s) (pS s) (pN s) _ zq.1 zq.2.1 zq.2.2).mono ?_; rintro e w' ⟨rfl, hb⟩; rw [HT2.out]; have hB := bl_next (by repeat (first | exact hB | refine Below.alloc ?_ (by have := hB.size; simp; omega) _ | refine bl_dN ?_ _ | refine Below.drew ?_ | refine Below.setCell ?_ (by have := hB.size; simp; omega) _)) hb; clear hb; have k0_0 := cb hB c0_0; have k0_1 := cb hB c0_1; have k0_2 := cb hB c0_2; have k1_0 := cb hB c1_0; have k1_1 := cb hB c1_1; have k1_2 := cb hB c1_2; have kz0 : w.heap.size < _ := lt_of_cell k0_0; have kz1 : w1.heap.size < _ := lt_of_cell k1_0) | (go_at_call 27; refine (alive1_calls _).mono ?_; rintro e w' ⟨rfl, hb⟩; have hB := bl_next (by repeat (first | exact hB | refine Below.alloc ?_ (by have := hB.size; simp; omega) _ | refine bl_dN ?_ _ | refine Below.drew ?_)) hb; clear hb) | (go_at_call 30; refine (right_calls _ _ (by first | (rw [app_size]; omega) | (rw [head_size]; omega))).mono ?_; rintro e w' ⟨rfl, hb⟩; (first | rw [right_head] | rw [right_tail s 65 (by decide)] | rw [right_tail s 32 (by decide)] | rw [right_tail s 47 (by decide)] | rw [right_tail s 45 (by decide)]); have hB := bl_next (by repeat (first | exact hB | refine Below.alloc ?_ (by have := hB.size; simp; omega) _ | refine bl_dN ?_ _ | refine Below.drew ?_)) hb; clear hb))
          go_ret
          exact ⟨rfl, bl_from Hw.out hB⟩
        | false =>
          have HQ := Lib.hid hq; clear hq
          have HP2 := Lib.hid (pv_no HQ.out)
          go_wp2_with (first | (go_at_call 32; refine (key_calls _ _ _ _ (by omega) (by omega) (by omega)).mono ?_; rintro e w' ⟨rfl, hb⟩; rw [HK.out]; have hB := bl_next (by repeat (first | exact hB | refine Below.alloc ?_ (by have := hB.size; simp; omega) _ | refine bl_dN ?_ _ | refine Below.drew ?_ | refine Below.setCell ?_ (by have := hB.size; simp; omega) _)) hb; clear hb; have k0_0 := cb hB c0_0; have k0_1 := cb hB c0_1; have k0_2 := cb hB c0_2; have k1_0 := cb hB c1_0; have k1_1 := cb hB c1_1; have k1_2 := cb hB c1_2; have kz0 : w.heap.size < _ := lt_of_cell k0_0; have kz1 : w1.heap.size < _ := lt_of_cell k1_0) | (go_at_call 28; refine (parse_calls s _ (by omega)).mono ?_; rintro e w' ⟨rfl, hb⟩; rw [HP2.out]; have hB := bl_next (by repeat (first | exact hB | refine Below.alloc ?_ (by have := hB.size; simp; omega) _ | refine bl_dN ?_ _ | refine Below.drew ?_ | refine Below.setCell ?_ (by have := hB.size; simp; omega) _)) hb; clear hb; have k0_0 := cb hB c0_0; have k0_1 := cb hB c0_1; have k0_2 := cb hB c0_2; have k1_0 := cb hB c1_0; have k1_1 := cb hB c1_1; have k1_2 := cb hB c1_2; have kz0 : w.heap.size < _ := lt_of_cell k0_0; have kz1 : w1.heap.size < _ := lt_of_cell k1_0) | (go_at_call 27; refine (alive1_calls _).mono ?_; rintro e w' ⟨rfl, hb⟩; have hB := bl_next (by repeat (first | exact hB | refine Below.alloc ?_ (by have := hB.size; simp; omega) _ | refine bl_dN ?_ _ | refine Below.drew ?_)) hb; clear hb) | (go_at_call 30; refine (right_calls _ _ (by first | (rw [app_size]; omega) | (rw [head_size]; omega))).mono ?_; rintro e w' ⟨rfl, hb⟩; (first | rw [right_head] | rw [right_tail s 65 (by decide)] | rw [right_tail s 32 (by decide)] | rw [right_tail s 47 (by decide)] | rw [right_tail s 45 (by decide)]); have hB := bl_next (by repeat (first | exact hB | refine Below.alloc ?_ (by have := hB.size; simp; omega) _ | refine bl_dN ?_ _ | refine Below.drew ?_)) hb; clear hb))
          go_ret
          exact ⟨rfl, bl_from Hw.out hB⟩
  · cases sh
    all_goals
      go_wp2_with (first | (go_at_call 26; refine (short_calls _ _ _ _).mono ?_; rintro e w' ⟨rfl, hb⟩; rw [HS.out]; have hB := bl_next hB hb; clear hb) | (go_at_call 27; refine (alive1_calls _).mono ?_; rintro e w' ⟨rfl, hb⟩; have hB := bl_next hB hb; clear hb))
      go_ret
      exact ⟨rfl, bl_from Hw.out hB⟩
end Go.Proofs.Ytdcceaafiammfaa

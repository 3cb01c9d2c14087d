import Derived.Test.YtdcceaafiammfaaProg
import Derived.Test.YtdcceaafiammfaaBase
import Derived.Test.YtdcceaafiammfaaPl
import Derived.Test.YtdcceaafiammfaaShelf
namespace Go.Proofs.Ytdcceaafiammfaa
open Go.RowKit
def signB (c : Int) : Bool := (decide (97 ≤ c) && decide (c ≤ 122)) || (decide (48 ≤ c) && decide (c ≤ 57)) || (c == 45)
theorem sign_calls (c : Int) (w : World) :
    Calls Try.prog 65 #[.int .i32 c] w fun e w' => e = .returned (.bool (signB c)) ∧ w = w' := by
  go_enter Try.func65, Try.ntmps65
  by_cases h1 : 97 ≤ c <;> by_cases h2 : c ≤ 122 <;> by_cases h3 : 48 ≤ c <;> by_cases h4 : c ≤ 57
  all_goals
    go_wp2
    go_ret
    exact ⟨ret_bool (by simp [signB, *] <;> omega), rfl⟩
/-- A key's text. -/
def keyText (k s n : ByteArray) : ByteArray := s ++ ⟨#[47]⟩ ++ k ++ ⟨#[47]⟩ ++ n
theorem keyText_size (k s n : ByteArray) : (keyText k s n).size = k.size + s.size + n.size + 2 := by
  have : (⟨#[47]⟩ : ByteArray).size = 1 := rfl
  simp only [keyText, ByteArray.size_append, this]; omega
theorem text_calls (k s n : ByteArray) (w : World) (h : k.size + s.size + n.size ≤ 140737488355328) :
    Calls Try.prog 66 #[.agg #[.string k, .string s, .string n]] w fun e w' => e = .returned (.string (keyText k s n)) ∧ Below w.heap.size w w' := by
  go_enter Try.func66, Try.ntmps66
  go_wp2
  go_ret
  exact ⟨rfl, (Below.refl _ _).alloc (Nat.le_refl _) _⟩
set_option maxHeartbeats 400000 in
theorem less_calls (k s n k' s' n' : ByteArray) (w : World) (h : k.size + s.size + n.size ≤ 140737488355328) (h' : k'.size + s'.size + n'.size ≤ 140737488355328) :
    Calls Try.prog 36 #[.agg #[.string k, .string s, .string n], .agg #[.string k', .string s', .string n']] w fun e w' => e = .returned (.bool (Op.bytesLess (keyText k s n).toList (keyText k' s' n').toList)) ∧ Below w.heap.size w w' := by
  go_enter Try.func36, Try.ntmps36
  go_wp2_with fail
  first | with_reducible refine name_wp ?_ | with_reducible refine name_calls ?_
  intro W hWeq
  have g0 : W.heap[w.heap.size]? = some (.cells #[.string k, .string s, .string n] 35) := by rw [hWeq]; repeat (first | exact blk_newAt _ _ (by simp) | refine blk_old ?_ _ | refine blk_dN ?_ _ | refine blk_drew ?_)
  have g1 : W.heap[w.heap.size + 1]? = some (.cells #[.string k', .string s', .string n'] 35) := by rw [hWeq]; repeat (first | exact blk_newAt _ _ (by simp) | refine blk_old ?_ _ | refine blk_dN ?_ _ | refine blk_drew ?_)
  have hw : Below w.heap.size w W := by rw [hWeq]; repeat (first | exact Below.refl _ _ | refine Below.alloc ?_ (by simp) _ | refine bl_dN ?_ _ | refine Below.drew ?_)
  clear hWeq
  have hz : w.heap.size + 2 ≤ W.heap.size := by have := blk_lt g1; omega
  have c0_0 : W.cell? ⟨w.heap.size, 0, none⟩ = some (.string k) := blk_cell g0 0
  have c0_1 : W.cell? ⟨w.heap.size, 1, none⟩ = some (.string s) := blk_cell g0 1
  have c0_2 : W.cell? ⟨w.heap.size, 2, none⟩ = some (.string n) := blk_cell g0 2
  have f0 : ∀ j, W.frozen? ⟨w.heap.size, j, none⟩ = false := blk_free g0
  have c1_0 : W.cell? ⟨w.heap.size + 1, 0, none⟩ = some (.string k') := blk_cell g1 0
  have c1_1 : W.cell? ⟨w.heap.size + 1, 1, none⟩ = some (.string s') := blk_cell g1 1
  have c1_2 : W.cell? ⟨w.heap.size + 1, 2, none⟩ = some (.string n') := blk_cell g1 2
  have f1 : ∀ j, W.frozen? ⟨w.heap.size + 1, j, none⟩ = false := blk_free g1
  have hB : Below W.heap.size W W := Below.refl _ _
  have G0 := Lib.hid g0; clear g0
  have F0 := Lib.hid f0; clear f0
  have G1 := Lib.hid g1; clear g1
  have F1 := Lib.hid f1; clear f1
  have Hw := Lib.hid hw; clear hw
  have hB := hB.drew
  go_region_held3 (fun w' => w'.cell? ⟨w.heap.size, 0, none⟩ = some (.string k) ∧ w'.cell? ⟨w.heap.size, 1, none⟩ = some (.string s) ∧ w'.cell? ⟨w.heap.size, 2, none⟩ = some (.string n) ∧ w'.cell? ⟨w.heap.size + 1, 0, none⟩ = some (.string k') ∧ w'.cell? ⟨w.heap.size + 1, 1, none⟩ = some (.string s') ∧ w'.cell? ⟨w.heap.size + 1, 2, none⟩ = some (.string n')) (exact ⟨cb hB c0_0, cb hB c0_1, cb hB c0_2, cb hB c1_0, cb hB c1_1, cb hB c1_2⟩) (first | (go_at_call 66; refine (text_calls _ _ _ _ (by omega)).mono ?_; rintro e w' ⟨rfl, hb⟩; have hB := bl_next hB hb; clear hb))
  all_goals go_wp2
  all_goals go_ret
  all_goals exact ⟨rfl, bl_from Hw.out hB⟩
theorem width_pos (s : ByteArray) (pos : Nat) (h : pos < s.size) : 1 ≤ (Utf8.decode s pos).2 := by
  by_cases ha : (s[pos]'h).toNat < 128
  · rw [decode_ascii s pos h ha]
    exact Nat.le_refl _
  · exact (decode_high s pos h (by omega)).2
def lettersTo (s : ByteArray) (n : Nat) : Bool := (s.data.toList.take n).all fun b => signB b.toNat
theorem lettersTo_snoc (s : ByteArray) (n : Nat) (h : n < s.size) : lettersTo s (n + 1) = (lettersTo s n && signB ((s[n]'h).toNat : Int)) := by
  unfold lettersTo
  rw [List.take_succ_eq_append_getElem (by simpa using h), List.all_append]
  simp [ByteArray.getElem_eq_getElem_data]
theorem lettersTo_mono (s : ByteArray) (n m : Nat) (h : n ≤ m) (hm : lettersTo s m = true) : lettersTo s n = true := by
  unfold lettersTo at *
  rw [List.all_eq_true] at *
  exact fun x hx => hm x ((List.take_sublist_take_left h).subset hx)
/-- Is a text a label? -/
def rightB (s : ByteArray) : Bool := lettersTo s s.size && decide (1 ≤ s.size) && decide (s.size ≤ 24) && !(byteAt s 0 == 45) && !(byteAt s (s.size - 1) == 45)
theorem sign_high (c : Nat) (h : 128 ≤ c) : signB (c : Int) = false := by simp [signB]; omega
theorem right_no (s : ByteArray) (n : Nat) (h : n < s.size) (hs : signB ((s[n]'h).toNat : Int) = false) : rightB s = false := by
  have : lettersTo s s.size = false := by
    cases hl : lettersTo s s.size with
    | false => rfl
    | true => have := lettersTo_mono s (n + 1) s.size (by omega) hl; rw [lettersTo_snoc s n h, hs] at this; simp at this
  simp [rightB, this]
theorem sign_decode (s : ByteArray) (pos : Nat) (h : pos < s.size) (hd : signB ((Utf8.decode s pos).1 : Int) = true) : signB ((s[pos]'h).toNat : Int) = true ∧ (Utf8.decode s pos).2 = 1 := by
  by_cases ha : (s[pos]'h).toNat < 128
  · rw [decode_ascii s pos h ha] at *; exact ⟨hd, rfl⟩
  · rw [sign_high _ (decode_high s pos h (by omega)).1] at hd; simp at hd
theorem sign_decode_no (s : ByteArray) (pos : Nat) (h : pos < s.size) (hd : signB ((Utf8.decode s pos).1 : Int) = false) : signB ((s[pos]'h).toNat : Int) = false := by
  by_cases ha : (s[pos]'h).toNat < 128
  · rw [decode_ascii s pos h ha] at *; exact hd
  · exact sign_high _ (by omega)
theorem right_short (s : ByteArray) (h : s.size < 1 ∨ 24 < s.size) : rightB s = false := by rcases h with h | h <;> simp [rightB] <;> omega
theorem right_bytes (s : ByteArray) (h1 : 1 ≤ s.size) (h2 : s.size ≤ 24) (hl : lettersTo s s.size = true) : rightB s = (!(byteAt s 0 == 45) && !(byteAt s (s.size - 1) == 45)) := by simp [rightB, hl, h1, h2]
set_option maxRecDepth 100000 in
theorem right_calls (s : ByteArray) (w : World) (hs : s.size ≤ 140737488355328) :
    Calls Try.prog 30 #[.string s] w fun e w' => e = .returned (.bool (rightB s)) ∧ Below w.heap.size w w' := by
  go_enter Try.func30, Try.ntmps30
  go_wp2
  go_loopw [4] (fun _ w' => ∃ pos : Nat, w' = w.iter s pos ∧ pos ≤ s.size ∧ lettersTo s pos = true) (fun _ w' => s.size - w'.iterPos w.heap.size)
  case atStart => exact ⟨0, rfl, by omega, rfl⟩
  case round =>
    obtain ⟨pos, rfl, hp, hl⟩ := hrel
    by_cases hlt : pos < s.size
    · have hnx : ∀ ty, (Instr.next (.pointer (some ⟨w.heap.size, 0, none⟩)) true ty).run Try.prog (w.iter s pos) = _ := fun ty => run_next_any w s pos ty hlt
      generalize hd : signB ((Utf8.decode s pos).1 : Int) = d
      have HD := Lib.hid hd; clear hd
      have HL := Lib.hid hl; clear hl
      cases d with
      | true =>
        go_wp2_with (go_at_call 65; refine (sign_calls _ _).mono ?_; rintro e w' ⟨rfl, rfl⟩; rw [HD.out])
        have hsd := sign_decode s pos hlt HD.out
        go_roundw
        case rel => exact ⟨pos + 1, by rw [hsd.2], by omega, by rw [lettersTo_snoc s pos hlt, HL.out, hsd.1]; rfl⟩
        case measure => simp; omega
      | false =>
        go_wp2_with (go_at_call 65; refine (sign_calls _ _).mono ?_; rintro e w' ⟨rfl, rfl⟩; rw [HD.out])
        go_ret
        exact ⟨ret_bool (right_no s pos hlt (sign_decode_no s pos hlt HD.out)).symm, below_iter _ _ _⟩
    · have hnx : ∀ ty, (Instr.next (.pointer (some ⟨w.heap.size, 0, none⟩)) true ty).run Try.prog (w.iter s pos) = _ := fun ty => run_next_end w s pos ty hlt
      obtain rfl : pos = s.size := by omega
      have HL := Lib.hid hl; clear hl
      by_cases h1 : 1 ≤ s.size <;> by_cases h2 : s.size ≤ 24
      all_goals go_wp2
      all_goals go_ret
      · exact ⟨ret_bool (by rw [right_bytes s h1 h2 HL.out, byteAt_eq s 0 ‹_›]; simp [*]), below_iter _ _ _⟩
      · exact ⟨ret_bool (by rw [right_bytes s h1 h2 HL.out, byteAt_eq s 0 ‹_›, byteAt_eq s (s.size - 1) (by omega)]; simp [bne]), below_iter _ _ _⟩
      all_goals exact ⟨ret_bool (right_short s (by omega)).symm, below_iter _ _ _⟩
def keyB (k s n : ByteArray) : Bool := rightB s && rightB k && rightB n
theorem key_calls (k s n : ByteArray) (w : World) (hk : k.size ≤ 140737488355328) (hs : s.size ≤ 140737488355328) (hn : n.size ≤ 140737488355328) :
    Calls Try.prog 32 #[.agg #[.string k, .string s, .string n]] w fun e w' => e = .returned (.bool (keyB k s n)) ∧ Below w.heap.size w w' := by
  go_enter Try.func32, Try.ntmps32
  go_wp2_with fail
  first | with_reducible refine name_wp ?_ | with_reducible refine name_calls ?_
  intro W hWeq
  have g0 : W.heap[w.heap.size]? = some (.cells #[.string k, .string s, .string n] 35) := by rw [hWeq]; repeat (first | exact blk_newAt _ _ (by simp) | refine blk_old ?_ _ | refine blk_dN ?_ _ | refine blk_drew ?_)
  have hw : Below w.heap.size w W := by rw [hWeq]; repeat (first | exact Below.refl _ _ | refine Below.alloc ?_ (by simp) _ | refine bl_dN ?_ _ | refine Below.drew ?_)
  clear hWeq
  have hz : w.heap.size + 1 ≤ W.heap.size := by have := blk_lt g0; omega
  have c0_0 : W.cell? ⟨w.heap.size, 0, none⟩ = some (.string k) := blk_cell g0 0
  have c0_1 : W.cell? ⟨w.heap.size, 1, none⟩ = some (.string s) := blk_cell g0 1
  have c0_2 : W.cell? ⟨w.heap.size, 2, none⟩ = some (.string n) := blk_cell g0 2
  have f0 : ∀ j, W.frozen? ⟨w.heap.size, j, none⟩ = false := blk_free g0
  have hB : Below W.heap.size W W := Below.refl _ _
  have G0 := Lib.hid g0; clear g0
  have F0 := Lib.hid f0; clear f0
  have Hw := Lib.hid hw; clear hw
  go_wp2_with (go_at_call 30; refine (right_calls _ _ (by assumption)).mono ?_; rintro e w' ⟨rfl, hb⟩; have hB := bl_next (by repeat (first | exact hB | refine Below.alloc ?_ (by have := hB.size; simp; omega) _ | refine bl_dN ?_ _ | refine Below.drew ?_ | refine Below.setCell ?_ (by have := hB.size; simp; omega) _)) hb; clear hb; have k0_0 := cb hB c0_0; have k0_1 := cb hB c0_1; have k0_2 := cb hB c0_2; have kz0 : w.heap.size < _ := lt_of_cell k0_0)
  all_goals go_ret
  all_goals exact ⟨ret_bool (by simp [keyB, *]), bl_from Hw.out hB⟩
def textB (k s n : ByteArray) : ByteArray := if keyB k s n then keyText k s n else ⟨#[]⟩
theorem textK_calls (k s n : ByteArray) (w : World) (hk : k.size ≤ 1073741824) (hs : s.size ≤ 1073741824) (hn : n.size ≤ 1073741824) :
    Calls Try.prog 34 #[.agg #[.string k, .string s, .string n]] w fun e w' => e = .returned (.string (textB k s n)) ∧ Below w.heap.size w w' := by
  go_enter Try.func34, Try.ntmps34
  go_wp2_with fail
  first | with_reducible refine name_wp ?_ | with_reducible refine name_calls ?_
  intro W hWeq
  have g0 : W.heap[w.heap.size]? = some (.cells #[.string k, .string s, .string n] 35) := by rw [hWeq]; repeat (first | exact blk_newAt _ _ (by simp) | refine blk_old ?_ _ | refine blk_dN ?_ _ | refine blk_drew ?_)
  have hw : Below w.heap.size w W := by rw [hWeq]; repeat (first | exact Below.refl _ _ | refine Below.alloc ?_ (by simp) _ | refine bl_dN ?_ _ | refine Below.drew ?_)
  clear hWeq
  have hz : w.heap.size + 1 ≤ W.heap.size := by have := blk_lt g0; omega
  have c0_0 : W.cell? ⟨w.heap.size, 0, none⟩ = some (.string k) := blk_cell g0 0
  have c0_1 : W.cell? ⟨w.heap.size, 1, none⟩ = some (.string s) := blk_cell g0 1
  have c0_2 : W.cell? ⟨w.heap.size, 2, none⟩ = some (.string n) := blk_cell g0 2
  have f0 : ∀ j, W.frozen? ⟨w.heap.size, j, none⟩ = false := blk_free g0
  have hB : Below W.heap.size W W := Below.refl _ _
  have G0 := Lib.hid g0; clear g0
  have F0 := Lib.hid f0; clear f0
  have Hw := Lib.hid hw; clear hw
  go_wp2_with (first | (go_at_call 32; refine (key_calls _ _ _ _ (by omega) (by omega) (by omega)).mono ?_; rintro e w' ⟨rfl, hb⟩; have hB := bl_next (by repeat (first | exact hB | refine Below.alloc ?_ (by have := hB.size; simp; omega) _ | refine bl_dN ?_ _ | refine Below.drew ?_ | refine Below.setCell ?_ (by have := hB.size; simp; omega) _)) hb; clear hb; have k0_0 := cb hB c0_0; have k0_1 := cb hB c0_1; have k0_2 := cb hB c0_2; have kz0 : w.heap.size < _ := lt_of_cell k0_0) | (go_at_call 66; refine (text_calls _ _ _ _ (by omega)).mono ?_; rintro e w' ⟨rfl, hb⟩; have hB := bl_next (by repeat (first | exact hB | refine Below.alloc ?_ (by have := hB.size; simp; omega) _ | refine bl_dN ?_ _ | refine Below.drew ?_ | refine Below.setCell ?_ (by have := hB.size; simp; omega) _)) hb; clear hb; have k0_0 := cb hB c0_0; have k0_1 := cb hB c0_1; have k0_2 := cb hB c0_2; have kz0 : w.heap.size < _ := lt_of_cell k0_0))
  all_goals go_ret
  all_goals exact ⟨ret_str (by simp_all [textB]), bl_from Hw.out hB⟩
-- the reference
set_option maxHeartbeats 400000 in
theorem before_calls (a b : ByteArray) (w : World) (ha : a.size ≤ 1073741824000) (hb : b.size ≤ 1073741824000) :
    Calls Try.prog 67 #[.string a, .string b] w fun e w' => e = .returned (.bool (Op.bytesLess a.toList b.toList)) ∧ ∃ n, w' = w.drewN n := by
  go_enter Try.func67, Try.ntmps67
  go_wp2
  go_loopw [5] (fun i wr => ∃ k : Nat, i = .int .i64 k ∧ k ≤ a.size ∧ k ≤ b.size ∧ (a.data.toList.take k = b.data.toList.take k) ∧ ∃ n, wr = w.drewN n) (fun i _ => a.size - (intOf i).toNat)
  case atStart => exact ⟨0, rfl, by omega, by omega, rfl, 0, rfl⟩
  case round =>
    obtain ⟨k, rfl, h1, h2, heq, nd, rfl⟩ := hrel
    have HE := Lib.hid heq; clear heq
    by_cases g1 : k < a.size
    · by_cases g2 : k < b.size
      · go_wp2
        go_quiet (fail)
        go_wp2
        · go_quiet (fail)
          go_wp2
          go_ret
          have hne : ((a[k]'g1).toNat : Int) ≠ ((b[k]'g2).toNat : Int) := by have h : ((a[k]'g1).toNat : Int) != ((b[k]'g2).toNat : Int) := by assumption
                                                                             simpa using h
          exact ⟨ret_bool ((bless_diff a b k HE.out g1 g2 hne).trans (by simp)).symm, dn_ex (dn_ex ⟨_, rfl⟩ _) _⟩
        · go_roundw
          have heq : ((a[k]'g1).toNat : Int) = ((b[k]'g2).toNat : Int) := by have h : (((a[k]'g1).toNat : Int) != ((b[k]'g2).toNat : Int)) = false := by assumption
                                                                             simpa using h
          case rel => exact ⟨k + 1, by go_num, by omega, by omega, by rw [take_snoc a k g1, take_snoc b k g2, HE.out, u8_of_int heq], _, rfl⟩
          case measure => simp [intOf]; omega
      · go_wp2
        go_ret
        exact ⟨ret_bool (by rw [bless_end a b k HE.out h1 h2 (by omega)]), _, rfl⟩
    · go_wp2
      go_ret
      exact ⟨ret_bool (by rw [bless_end a b k HE.out h1 h2 (by omega)]), _, rfl⟩
theorem cut1_calls (s : ByteArray) (c : UInt8) (w : World) (hs : s.size ≤ 1073741824000) :
    Calls Try.prog 81 #[.string s, .string ⟨#[c]⟩] w fun e w' => e = .returned (.tuple #[.string (cutA s c), .string (cutB s c), .bool (decide (findAt s c 0 < s.size))]) ∧ ∃ n, w' = w.drewN n := by
  have hix := indexByte_find s c
  by_cases h : findAt s c 0 < s.size
  · rw [if_pos h] at hix
    have HI := Lib.hid hix; clear hix
    have eA : s.extract 0 (findAt s c 0) = cutA s c := rfl
    have eB : s.extract (findAt s c 0 + 1) s.size = cutB s c := rfl
    generalize hf : findAt s c 0 = i at *
    have HF := Lib.hid hf; clear hf
    have EA := Lib.hid eA; have EB := Lib.hid eB; clear eA eB
    have hi0 : (0 : Int) ≤ i := by omega
    go_enter Try.func81, Try.ntmps81
    go_wp2_with (go_at_call 85; refine (Try.stringslite_Index_one _ _ _).mono ?_; rintro e w' ⟨rfl, rfl⟩; rw [HI.out])
    go_quiet (fail)
    go_wp2
    go_ret3
    exact ⟨ret3 (vstr EA.out) (vstr EB.out) (vbool (by simp [h])), dn_ex (dn_self _) _⟩
  · rw [if_neg h] at hix
    have HI := Lib.hid hix; clear hix
    go_enter Try.func81, Try.ntmps81
    go_wp2_with (go_at_call 85; refine (Try.stringslite_Index_one _ _ _).mono ?_; rintro e w' ⟨rfl, rfl⟩; rw [HI.out])
    go_ret3
    exact ⟨ret3 (vstr (cutA_none h).symm) (vstr (cutB_none h).symm) (vbool (by simp [h])), dn_self _⟩
theorem cut_calls (s : ByteArray) (c : UInt8) (w : World) (hs : s.size ≤ 1073741824000) :
    Calls Try.prog 63 #[.string s, .string ⟨#[c]⟩] w fun e w' => e = .returned (.tuple #[.string (cutA s c), .string (cutB s c), .bool (decide (findAt s c 0 < s.size))]) ∧ ∃ n, w' = w.drewN n := by
  go_enter Try.func63, Try.ntmps63
  go_wp2_with (go_at_call 81; refine (cut1_calls _ _ _ hs).mono ?_; rintro e w' ⟨rfl, n, rfl⟩)
  go_ret3
  exact ⟨rfl, dn_ex (dn_self _) _⟩
/-- What a text's key is. -/
def pS (s : ByteArray) : ByteArray := cutA s 47
def pK (s : ByteArray) : ByteArray := cutA (cutB s 47) 47
def pN (s : ByteArray) : ByteArray := cutB (cutB s 47) 47
def parseOk (s : ByteArray) : Bool := keyB (pK s) (pS s) (pN s)
def parseV (s : ByteArray) : Value := if parseOk s then .tuple #[.agg #[.string (pK s), .string (pS s), .string (pN s)], .int .i64 0] else .tuple #[.agg #[.string ⟨#[]⟩, .string ⟨#[]⟩, .string ⟨#[]⟩], .int .i64 2]
set_option maxHeartbeats 1600000 in
theorem parse_calls (s : ByteArray) (w : World) (hs : s.size ≤ 1073741824) :
    Calls Try.prog 28 #[.string s] w fun e w' => e = .returned (parseV s) ∧ Below w.heap.size w w' := by
  have z1 := cutA_size s 47; have z2 := cutB_size s 47; have z3 := cutA_size (cutB s 47) 47; have z4 := cutB_size (cutB s 47) 47
  go_enter Try.func28, Try.ntmps28
  go_wp2_with (go_at_call 63; refine (cut_calls _ _ _ (by omega)).mono ?_; rintro e w' ⟨rfl, n, rfl⟩)
  first | with_reducible refine name_wp ?_ | with_reducible refine name_calls ?_
  intro W hWeq
  have g0 : W.heap[w.heap.size]? = some (.cells #[.string ⟨#[]⟩, .string ⟨#[]⟩, .string ⟨#[]⟩] 35) := by rw [hWeq]; repeat (first | exact blk_newAt _ _ (by simp) | refine blk_old ?_ _ | refine blk_dN ?_ _ | refine blk_drew ?_)
  have g1 : W.heap[w.heap.size + 1]? = some (.cells #[.string (cutA (cutB s 47) 47), .string (cutA s 47), .string (cutB (cutB s 47) 47)] 35) := by rw [hWeq]; repeat (first | exact blk_newAt _ _ (by simp) | refine blk_old ?_ _ | refine blk_dN ?_ _ | refine blk_drew ?_)
  have hw : Below w.heap.size w W := by rw [hWeq]; repeat (first | exact Below.refl _ _ | refine Below.alloc ?_ (by simp) _ | refine bl_dN ?_ _ | refine Below.drew ?_)
  clear hWeq
  have hz : w.heap.size + 2 ≤ W.heap.size := by have := blk_lt g1; omega
  have c0_0 : W.cell? ⟨w.heap.size, 0, none⟩ = some (.string ⟨#[]⟩) := blk_cell g0 0
  have c0_1 : W.cell? ⟨w.heap.size, 1, none⟩ = some (.string ⟨#[]⟩) := blk_cell g0 1
  have c0_2 : W.cell? ⟨w.heap.size, 2, none⟩ = some (.string ⟨#[]⟩) := blk_cell g0 2
  have f0 : ∀ j, W.frozen? ⟨w.heap.size, j, none⟩ = false := blk_free g0
  have c1_0 : W.cell? ⟨w.heap.size + 1, 0, none⟩ = some (.string (cutA (cutB s 47) 47)) := blk_cell g1 0
  have c1_1 : W.cell? ⟨w.heap.size + 1, 1, none⟩ = some (.string (cutA s 47)) := blk_cell g1 1
  have c1_2 : W.cell? ⟨w.heap.size + 1, 2, none⟩ = some (.string (cutB (cutB s 47) 47)) := blk_cell g1 2
  have f1 : ∀ j, W.frozen? ⟨w.heap.size + 1, j, none⟩ = false := blk_free g1
  have hB : Below W.heap.size W W := Below.refl _ _
  have G0 := Lib.hid g0; clear g0
  have F0 := Lib.hid f0; clear f0
  have G1 := Lib.hid g1; clear g1
  have F1 := Lib.hid f1; clear f1
  have Hw := Lib.hid hw; clear hw
  go_wp2_with (go_at_call 32; refine (key_calls _ _ _ _ (by omega) (by omega) (by omega)).mono ?_; rintro e w' ⟨rfl, hb⟩; have hB := bl_next (by repeat (first | exact hB | refine Below.alloc ?_ (by have := hB.size; simp; omega) _ | refine bl_dN ?_ _ | refine Below.drew ?_ | refine Below.setCell ?_ (by have := hB.size; simp; omega) _)) hb; clear hb; have k0_0 := cb hB c0_0; have k0_1 := cb hB c0_1; have k0_2 := cb hB c0_2; have k1_0 := cb hB c1_0; have k1_1 := cb hB c1_1; have k1_2 := cb hB c1_2; have kz0 : w.heap.size < _ := lt_of_cell k0_0; have kz1 : w.heap.size + 1 < _ := lt_of_cell k1_0; have kf0_0 := fb hB (lt_of_cell c0_0) (F0.out 0); have kf0_1 := fb hB (lt_of_cell c0_1) (F0.out 1); have kf0_2 := fb hB (lt_of_cell c0_2) (F0.out 2); have kf1_0 := fb hB (lt_of_cell c1_0) (F1.out 0); have kf1_1 := fb hB (lt_of_cell c1_1) (F1.out 1); have kf1_2 := fb hB (lt_of_cell c1_2) (F1.out 2))
  all_goals have hw0 := bl_from Hw.out hB
  · refine bodyPost_ret (v := .tuple #[.agg #[.string ⟨#[]⟩, .string ⟨#[]⟩, .string ⟨#[]⟩], .int .i64 2]) (by simp [results, Try.results28, go_sem, k0_0, k0_1, k0_2]) rfl ⟨?_, ?_⟩
    · simp_all [parseV, parseOk, pK, pS, pN]
    · exact ((hw0.setCell (Nat.le_refl _) _).setCell (Nat.le_refl _) _).setCell (Nat.le_refl _) _
  · refine bodyPost_ret (v := .tuple #[.agg #[.string (pK s), .string (pS s), .string (pN s)], .int .i64 0]) (by simp [results, Try.results28, go_sem, k0_0, k0_1, k0_2, pK, pS, pN]) rfl ⟨?_, ?_⟩
    · simp_all [parseV, parseOk, pK, pS, pN]
    · exact ((hw0.setCell (Nat.le_refl _) _).setCell (Nat.le_refl _) _).setCell (Nat.le_refl _) _
end Go.Proofs.Ytdcceaafiammfaa

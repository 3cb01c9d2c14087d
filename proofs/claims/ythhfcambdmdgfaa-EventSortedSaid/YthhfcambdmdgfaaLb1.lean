import Derived.Test.YthhfcambdmdgfaaProg
import Derived.Test.YthhfcambdmdgfaaBase
import Derived.Test.YthhfcambdmdgfaaPl
namespace Go.Proofs.Ythhfcambdmdgfaa
open Go.RowKit
def signB (c : Int) : Bool := (decide (97 ≤ c) && decide (c ≤ 122)) || (decide (48 ≤ c) && decide (c ≤ 57)) || (c == 45)
theorem sign_calls (c : Int) (w : World) :
    Calls Try.prog 107 #[.int .i32 c] w fun e w' => e = .returned (.bool (signB c)) ∧ w = w' := by
  go_enter Try.func107, Try.ntmps107
  by_cases h1 : 97 ≤ c <;> by_cases h2 : c ≤ 122 <;> by_cases h3 : 48 ≤ c <;> by_cases h4 : c ≤ 57
  all_goals
    go_wp2
    go_ret
    exact ⟨ret_bool (by simp [signB, *] <;> omega), rfl⟩
theorem width_pos (s : ByteArray) (pos : Nat) (h : pos < s.size) : 1 ≤ (Utf8.decode s pos).2 := by
  by_cases ha : (s[pos]'h).toNat < 128
  · rw [decode_ascii s pos h ha]
    exact Nat.le_refl _
  · exact (decode_high s pos h (by omega)).2
def lettersTo (s : ByteArray) (n : Nat) : Bool := (s.data.toList.take n).all fun b => signB b.toNat
theorem lettersTo_snoc (s : ByteArray) (n : Nat) (h : n < s.size) : lettersTo s (n + 1) = (lettersTo s n && signB ((s[n]'h).toNat : Int)) := by
  unfold lettersTo
  rw [List.take_succ_eq_append_getElem (by simpa using h), List.all_append]
  simp [ByteArray.getElem_eq_getElem_data]
theorem lettersTo_mono (s : ByteArray) (n m : Nat) (h : n ≤ m) (hm : lettersTo s m = true) : lettersTo s n = true := by
  unfold lettersTo at *
  rw [List.all_eq_true] at *
  exact fun x hx => hm x ((List.take_sublist_take_left h).subset hx)
/-- Is a text a label? -/
def rightB (s : ByteArray) : Bool := lettersTo s s.size && decide (1 ≤ s.size) && decide (s.size ≤ 24) && !(byteAt s 0 == 45) && !(byteAt s (s.size - 1) == 45)
theorem sign_high (c : Nat) (h : 128 ≤ c) : signB (c : Int) = false := by simp [signB]; omega
theorem right_no (s : ByteArray) (n : Nat) (h : n < s.size) (hs : signB ((s[n]'h).toNat : Int) = false) : rightB s = false := by
  have : lettersTo s s.size = false := by
    cases hl : lettersTo s s.size with
    | false => rfl
    | true => have := lettersTo_mono s (n + 1) s.size (by omega) hl; rw [lettersTo_snoc s n h, hs] at this; simp at this
  simp [rightB, this]
theorem sign_decode (s : ByteArray) (pos : Nat) (h : pos < s.size) (hd : signB ((Utf8.decode s pos).1 : Int) = true) : signB ((s[pos]'h).toNat : Int) = true ∧ (Utf8.decode s pos).2 = 1 := by
  by_cases ha : (s[pos]'h).toNat < 128
  · rw [decode_ascii s pos h ha] at *; exact ⟨hd, rfl⟩
  · rw [sign_high _ (decode_high s pos h (by omega)).1] at hd; simp at hd
theorem sign_decode_no (s : ByteArray) (pos : Nat) (h : pos < s.size) (hd : signB ((Utf8.decode s pos).1 : Int) = false) : signB ((s[pos]'h).toNat : Int) = false := by
  by_cases ha : (s[pos]'h).toNat < 128
  · rw [decode_ascii s pos h ha] at *; exact hd
  · exact sign_high _ (by omega)
theorem right_short (s : ByteArray) (h : s.size < 1 ∨ 24 < s.size) : rightB s = false := by rcases h with h | h <;> simp [rightB] <;> omega
theorem right_bytes (s : ByteArray) (h1 : 1 ≤ s.size) (h2 : s.size ≤ 24) (hl : lettersTo s s.size = true) : rightB s = (!(byteAt s 0 == 45) && !(byteAt s (s.size - 1) == 45)) := by simp [rightB, hl, h1, h2]
set_option maxRecDepth 100000 in
theorem right_calls (s : ByteArray) (w : World) (hs : s.size ≤ 140737488355328) :
    Calls Try.prog 89 #[.string s] w fun e w' => e = .returned (.bool (rightB s)) ∧ Below w.heap.size w w' := by
  go_enter Try.func89, Try.ntmps89
  go_wp2
  go_loopw [4] (fun _ w' => ∃ pos : Nat, w' = w.iter s pos ∧ pos ≤ s.size ∧ lettersTo s pos = true) (fun _ w' => s.size - w'.iterPos w.heap.size)
  case atStart => exact ⟨0, rfl, by omega, rfl⟩
  case round =>
    obtain ⟨pos, rfl, hp, hl⟩ := hrel
    by_cases hlt : pos < s.size
    · have hnx : ∀ ty, (Instr.next (.pointer (some ⟨w.heap.size, 0, none⟩)) true ty).run Try.prog (w.iter s pos) = _ := fun ty => run_next_any w s pos ty hlt
      generalize hd : signB ((Utf8.decode s pos).1 : Int) = d
      have HD := Lib.hid hd; clear hd
      have HL := Lib.hid hl; clear hl
      cases d with
      | true =>
        go_wp2_with (go_at_call 107; refine (sign_calls _ _).mono ?_; rintro e w' ⟨rfl, rfl⟩; rw [HD.out])
        have hsd := sign_decode s pos hlt HD.out
        go_roundw
        case rel => exact ⟨pos + 1, by rw [hsd.2], by omega, by rw [lettersTo_snoc s pos hlt, HL.out, hsd.1]; rfl⟩
        case measure => simp; omega
      | false =>
        go_wp2_with (go_at_call 107; refine (sign_calls _ _).mono ?_; rintro e w' ⟨rfl, rfl⟩; rw [HD.out])
        go_ret
        exact ⟨ret_bool (right_no s pos hlt (sign_decode_no s pos hlt HD.out)).symm, below_iter _ _ _⟩
    · have hnx : ∀ ty, (Instr.next (.pointer (some ⟨w.heap.size, 0, none⟩)) true ty).run Try.prog (w.iter s pos) = _ := fun ty => run_next_end w s pos ty hlt
      obtain rfl : pos = s.size := by omega
      have HL := Lib.hid hl; clear hl
      by_cases h1 : 1 ≤ s.size <;> by_cases h2 : s.size ≤ 24
      all_goals go_wp2
      all_goals go_ret
      · exact ⟨ret_bool (by rw [right_bytes s h1 h2 HL.out, byteAt_eq s 0 ‹_›]; simp [*]), below_iter _ _ _⟩
      · exact ⟨ret_bool (by rw [right_bytes s h1 h2 HL.out, byteAt_eq s 0 ‹_›, byteAt_eq s (s.size - 1) (by omega)]; simp [bne]), below_iter _ _ _⟩
      all_goals exact ⟨ret_bool (right_short s (by omega)).symm, below_iter _ _ _⟩
-- the reference
set_option maxHeartbeats 400000 in
theorem before_calls (a b : ByteArray) (w : World) (ha : a.size ≤ 1073741824000) (hb : b.size ≤ 1073741824000) :
    Calls Try.prog 81 #[.string a, .string b] w fun e w' => e = .returned (.bool (Op.bytesLess a.toList b.toList)) ∧ ∃ n, w' = w.drewN n := by
  go_enter Try.func81, Try.ntmps81
  go_wp2
  go_loopw [5] (fun i wr => ∃ k : Nat, i = .int .i64 k ∧ k ≤ a.size ∧ k ≤ b.size ∧ (a.data.toList.take k = b.data.toList.take k) ∧ ∃ n, wr = w.drewN n) (fun i _ => a.size - (intOf i).toNat)
  case atStart => exact ⟨0, rfl, by omega, by omega, rfl, 0, rfl⟩
  case round =>
    obtain ⟨k, rfl, h1, h2, heq, nd, rfl⟩ := hrel
    have HE := Lib.hid heq; clear heq
    by_cases g1 : k < a.size
    · by_cases g2 : k < b.size
      · go_wp2
        go_quiet (fail)
        go_wp2
        · go_quiet (fail)
          go_wp2
          go_ret
          have hne : ((a[k]'g1).toNat : Int) ≠ ((b[k]'g2).toNat : Int) := by have h : ((a[k]'g1).toNat : Int) != ((b[k]'g2).toNat : Int) := by assumption
                                                                             simpa using h
          exact ⟨ret_bool ((bless_diff a b k HE.out g1 g2 hne).trans (by simp)).symm, dn_ex (dn_ex ⟨_, rfl⟩ _) _⟩
        · go_roundw
          have heq : ((a[k]'g1).toNat : Int) = ((b[k]'g2).toNat : Int) := by have h : (((a[k]'g1).toNat : Int) != ((b[k]'g2).toNat : Int)) = false := by assumption
                                                                             simpa using h
          case rel => exact ⟨k + 1, by go_num, by omega, by omega, by rw [take_snoc a k g1, take_snoc b k g2, HE.out, u8_of_int heq], _, rfl⟩
          case measure => simp [intOf]; omega
      · go_wp2
        go_ret
        exact ⟨ret_bool (by rw [bless_end a b k HE.out h1 h2 (by omega)]), _, rfl⟩
    · go_wp2
      go_ret
      exact ⟨ret_bool (by rw [bless_end a b k HE.out h1 h2 (by omega)]), _, rfl⟩
set_option maxHeartbeats 800000 in
theorem refRight_calls (s : ByteArray) (w : World) (hs : s.size ≤ 1073741824000) :
    Calls Try.prog 86 #[.string s] w fun e w' => e = .returned (.bool (rightB s)) ∧ ∃ n, w' = w.drewN n := by
  go_enter Try.func86, Try.ntmps86
  by_cases h1 : 1 ≤ s.size
  · by_cases h2 : s.size ≤ 24
    · go_wp2
      go_loop [4, 5] (fun i _ => ∃ k : Nat, i = .int .i64 k ∧ k ≤ s.size ∧ lettersTo s k = true) (fun i _ => s.size - (intOf i).toNat)
      case atStart => exact ⟨0, rfl, by omega, rfl⟩
      case round =>
        obtain ⟨k, rfl, hk, hl⟩ := hrel
        have HL := Lib.hid hl; clear hl
        by_cases hlt : k < s.size
        · go_wp2
          all_goals first | (go_round; (case rel => exact ⟨k + 1, by go_num, by omega, by rw [lettersTo_snoc s k hlt, HL.out]; simp only [Bool.true_and]; clear HL; simp_all [signB] <;> omega⟩); (case measure => simp [intOf]; omega)) | (go_ret; exact ⟨ret_bool (right_no s k hlt (by clear HL; simp_all [signB] <;> omega)).symm, dn_self _⟩)
        · obtain rfl : k = s.size := by omega
          go_wp2
          · go_ret
            exact ⟨ret_bool (by rw [right_bytes s h1 h2 HL.out, byteAt_eq s 0 ‹_›]; simp [*]), dn_self _⟩
          · go_ret
            exact ⟨ret_bool (by rw [right_bytes s h1 h2 HL.out, byteAt_eq s 0 ‹_›, byteAt_eq s (s.size - 1) (by omega)]; simp [bne]), dn_self _⟩
    · go_wp2
      go_ret
      exact ⟨ret_bool (right_short s (by omega)).symm, dn_self _⟩
  · go_wp2
    go_ret
    exact ⟨ret_bool (right_short s (by omega)).symm, dn_self _⟩
end Go.Proofs.Ythhfcambdmdgfaa

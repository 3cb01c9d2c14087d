import Derived.Test.YteomicjjaajblaaPw
import Derived.Test.YteomicjjaajblaaWida
import Derived.Test.YteomicjjaajblaaOwn
namespace Go.Proofs.Yteomicjjaajblaa
open Go.RowKit
set_option linter.unusedSimpArgs false
set_option linter.unusedVariables false
/-! ### The bits of a number, the lowest one first -/
def bits (v : Int) (n : Nat) : List Int := (List.range n).map fun i => v / 2 ^ i % 2
theorem bits_length (v : Int) (n : Nat) : (bits v n).length = n := by simp [bits]
theorem bits_succ (v : Int) (n : Nat) : bits v (n + 1) = bits v n ++ [v / 2 ^ n % 2] := by simp [bits, List.range_succ]
theorem bits_getD (v : Int) (n j : Nat) (h : j < n) : (bits v n).getD j 0 = v / 2 ^ j % 2 := by
  simp [bits, List.getD_eq_getElem?_getD, List.getElem?_map, List.getElem?_range, h]
theorem bits_ext {l : List Int} {v : Int} {n : Nat} (hl : l.length = n) (h : ∀ j, j < n → l.getD j 0 = v / 2 ^ j % 2) : l = bits v n := by
  apply List.ext_getElem
  · rw [hl, bits_length]
  · intro j h1 h2
    have := h j (by omega)
    rw [List.getD_eq_getElem?_getD, List.getElem?_eq_getElem h1] at this
    simp only [Option.getD_some] at this
    rw [this]; simp [bits]
theorem p2_pos (n : Nat) : (0 : Int) < 2 ^ n := by have := pw_pos n; omega
theorem p2_succ (n : Nat) : (2 : Int) ^ (n + 1) = 2 * 2 ^ n := by rw [Int.pow_succ]; omega
theorem div_succ (v : Int) (n : Nat) : v / 2 ^ (n + 1) = v / 2 ^ n / 2 := by rw [Int.pow_succ]; exact (ediv2 (by have := p2_pos n; omega)).symm
theorem div_add (v : Int) (a b : Nat) : v / 2 ^ (a + b) = v / 2 ^ a / 2 ^ b := by rw [Int.pow_add]; exact (ediv2 (by have := p2_pos a; omega)).symm
theorem bit01 (v : Int) : v % 2 = 0 ∨ v % 2 = 1 := by omega
/-- A number turned: its bits are turned. -/
theorem div_not (v : Int) : ∀ n : Nat, (-v - 1) / 2 ^ n = -(v / 2 ^ n) - 1
  | 0 => by simp
  | n + 1 => by rw [div_succ, div_succ, div_not v n]; omega
theorem bit_not (v : Int) (n : Nat) : (-v - 1) / 2 ^ n % 2 = 1 - v / 2 ^ n % 2 := by rw [div_not]; omega
/-- Of a wide number: the bits of its halves. -/
theorem lo_bit {h l : Int} (k : WOk h l) (i : Nat) (hi : i < 64) : wval h l / 2 ^ i % 2 = l / 2 ^ i % 2 := by
  obtain ⟨_, _, hl, hu⟩ := k
  have hp : (18446744073709551616 : Int) = 2 ^ i * (2 * 2 ^ (63 - i)) := by
    rw [show (2 : Int) ^ i * (2 * 2 ^ (63 - i)) = 2 ^ (i + (63 - i) + 1) by rw [Int.pow_succ, Int.pow_add]; rw [Int.mul_comm 2, ← Int.mul_assoc], show i + (63 - i) + 1 = 64 by omega]; rfl
  have hp0 := p2_pos i
  generalize (2 : Int) ^ i = p at hp hp0 ⊢
  generalize (2 : Int) ^ (63 - i) = q at hp
  have : wval h l = l + p * (2 * q * h) := by unfold wval; rw [hp]; rw [Int.mul_comm h, Int.mul_assoc, Int.add_comm]
  rw [this, Int.add_mul_ediv_left _ _ (by omega), Int.mul_assoc]
  omega
theorem hi_bit {h l : Int} (k : WOk h l) (i : Nat) : wval h l / 2 ^ (64 + i) = h / 2 ^ i := by
  obtain ⟨_, _, hl, hu⟩ := k
  rw [div_add, show (2 : Int) ^ 64 = 18446744073709551616 from rfl]
  rw [show wval h l / 18446744073709551616 = h by unfold wval; omega]
theorem hi_bit' (h : Int) (i : Nat) (hi : i < 64) : h % 18446744073709551616 / 2 ^ i % 2 = h / 2 ^ i % 2 := by
  have hp : (18446744073709551616 : Int) = 2 ^ i * (2 * 2 ^ (63 - i)) := by
    rw [show (2 : Int) ^ i * (2 * 2 ^ (63 - i)) = 2 ^ (i + (63 - i) + 1) by rw [Int.pow_succ, Int.pow_add]; rw [Int.mul_comm 2, ← Int.mul_assoc], show i + (63 - i) + 1 = 64 by omega]; rfl
  have hp0 := p2_pos i
  obtain ⟨q, hq⟩ : ∃ q, q = h / 18446744073709551616 := ⟨_, rfl⟩
  obtain ⟨r, hr⟩ : ∃ r, r = h % 18446744073709551616 := ⟨_, rfl⟩
  have e : h = r + 18446744073709551616 * q := by omega
  rw [← hr, e]; clear hr hq e
  rw [hp]; clear hp
  generalize (2 : Int) ^ i = p at hp0 ⊢
  generalize (2 : Int) ^ (63 - i) = s
  rw [Int.mul_assoc, Int.add_mul_ediv_left _ _ (by omega), Int.mul_assoc]
  omega
/-- Above the range: the bits of a number in range are all its sign. -/
theorem top_bit {v : Int} (h : wIn v = true) (i : Nat) : v / 2 ^ (127 + i) = v / 2 ^ 127 := by
  rw [div_add, show (2 : Int) ^ 127 = 170141183460469231731687303715884105728 from rfl]
  have hv : v / 170141183460469231731687303715884105728 = 0 ∨ v / 170141183460469231731687303715884105728 = -1 := by
    simp only [wIn, Bool.and_eq_true, decide_eq_true_eq] at h; unfold whi at h; omega
  have hp := pw_pos i
  rcases hv with e | e <;> rw [e]
  · simp
  · exact Int.ediv_eq_iff_of_pos (by omega) |>.2 (by omega)
theorem wIn_of_top {v : Int} (h : v / 2 ^ 127 = 0 ∨ v / 2 ^ 127 = -1) : wIn v = true := by
  rw [show (2 : Int) ^ 127 = 170141183460469231731687303715884105728 from rfl] at h
  simp only [wIn, Bool.and_eq_true, decide_eq_true_eq]; unfold whi; omega
theorem wIn_of_bits {v : Int} : ∀ {n : Nat}, (v / 2 ^ (127 + n) = 0 ∨ v / 2 ^ (127 + n) = -1) → (∀ j, j ≤ n → v / 2 ^ (127 + j) % 2 = v / 2 ^ 127 % 2) → wIn v = true
  | 0, h, _ => wIn_of_top (by simpa using h)
  | n + 1, h, hb => by
    refine wIn_of_bits (n := n) ?_ (fun j hj => hb j (by omega))
    have h1 := hb (n + 1) (by omega)
    have h2 := hb n (by omega)
    rw [show 127 + (n + 1) = 127 + n + 1 by omega, div_succ] at h h1
    rcases h with h | h <;> omega
/-- The number of bits, the highest one first. -/
theorem mod_step (x m : Int) (hm : 0 < m) : x % (2 * m) = 2 * (x / 2 % m) + x % 2 := by
  obtain ⟨q, hq⟩ : ∃ q, q = x / 2 := ⟨_, rfl⟩
  have hx : x = 2 * q + x % 2 := by omega
  rw [← hq]
  have h1 := Int.emod_nonneg q (show m ≠ 0 by omega)
  have h2 := Int.emod_lt_of_pos q hm
  have h3 := Int.mul_ediv_add_emod q m
  have e : x = (2 * (q % m) + x % 2) + 2 * m * (q / m) := by
    have : 2 * m * (q / m) = 2 * (m * (q / m)) := Int.mul_assoc _ _ _
    omega
  have h4 : (2 * (q % m) + x % 2) % (2 * m) = 2 * (q % m) + x % 2 := Int.emod_eq_of_lt (by omega) (by omega)
  generalize hr : 2 * (q % m) + x % 2 = r at *
  rw [e, Int.add_mul_emod_self_left, h4]
theorem num_step (v : Int) (s r : Nat) (h : 0 < r) (hr : r ≤ 64) : v / 2 ^ (s + (r - 1)) % 2 ^ (64 - (r - 1)) = 2 * (v / 2 ^ (s + r) % 2 ^ (64 - r)) + v / 2 ^ (s + (r - 1)) % 2 := by
  rw [show 64 - (r - 1) = 64 - r + 1 by omega, p2_succ, mod_step _ _ (p2_pos _), ← div_succ, show s + (r - 1) + 1 = s + r by omega]
theorem num_lt (v : Int) (s r : Nat) (h : 0 < r) (hr : r ≤ 64) : 0 ≤ v / 2 ^ (s + r) % 2 ^ (64 - r) ∧ v / 2 ^ (s + r) % 2 ^ (64 - r) < 9223372036854775808 := by
  refine ⟨Int.emod_nonneg _ (by have := p2_pos (64 - r); omega), ?_⟩
  have h1 := Int.emod_lt_of_pos (v / 2 ^ (s + r)) (p2_pos (64 - r))
  have h2 : (2 : Int) ^ (64 - r) ≤ 2 ^ 63 := by
    have e : 63 = 64 - r + (r - 1) := by omega
    rw [e, Int.pow_add]
    have := Int.mul_le_mul_of_nonneg_left (pw_pos (r - 1)) (show 0 ≤ (2 : Int) ^ (64 - r) by have := p2_pos (64 - r); omega)
    omega
  have h3 : (2 : Int) ^ 63 = 9223372036854775808 := rfl
  omega
/-- Sums: one carried in. -/
theorem sum_step (a b c : Int) (n : Nat) (cn : Int) (h : (a + b + c) / 2 ^ n = a / 2 ^ n + b / 2 ^ n + cn) :
    (a / 2 ^ n % 2 + b / 2 ^ n % 2 + cn) % 2 = (a + b + c) / 2 ^ n % 2 ∧ (a + b + c) / 2 ^ (n + 1) = a / 2 ^ (n + 1) + b / 2 ^ (n + 1) + (a / 2 ^ n % 2 + b / 2 ^ n % 2 + cn) / 2 := by
  rw [div_succ, div_succ, div_succ, h]; omega
/-- A shift: noughts ahead. -/
theorem bits_shift (v : Int) (n m : Nat) : List.replicate n 0 ++ bits v m = bits (v * 2 ^ n) (n + m) := by
  refine bits_ext (by simp [bits_length]) fun j hj => ?_
  by_cases h : j < n
  · rw [List.getD_eq_getElem?_getD, List.getElem?_append_left (by simpa using h), List.getElem?_replicate, if_pos h]
    have e : n = j + ((n - j - 1) + 1) := by omega
    have : v * 2 ^ n = 2 ^ j * (2 * (v * 2 ^ (n - j - 1))) := by
      conv => lhs; rw [e, Int.pow_add, p2_succ]
      generalize (2 : Int) ^ j = p
      generalize (2 : Int) ^ (n - j - 1) = q
      rw [show v * (p * (2 * q)) = p * (2 * (v * q)) by rw [Int.mul_left_comm, Int.mul_left_comm v 2]]
    rw [this, Int.mul_ediv_cancel_left _ (by have := p2_pos j; omega)]
    simp
  · rw [List.getD_eq_getElem?_getD, List.getElem?_append_right (by simp; omega), ← List.getD_eq_getElem?_getD, List.length_replicate, bits_getD _ _ _ (by omega)]
    rw [show j = n + (j - n) by omega, div_add, Int.mul_ediv_cancel _ (by have := p2_pos n; omega)]
    simp
end Go.Proofs.Yteomicjjaajblaa

import Derived.Test.YtdcceaafiammfaaDoorProg
import Derived.Test.YtdcceaafiammfaaDoorQd
import Derived.Lib.ParseIntBMem
namespace Go.Proofs.YtdcceaafiammfaaDoor
open Go.RowKit
set_option linter.unusedVariables false
set_option linter.unusedSimpArgs false
def valA (acc : Nat) : List UInt8 → Nat
  | [] => acc
  | c :: r => valA (acc * 10 + (c.toNat - 48)) r
theorem valA_ge : ∀ (l : List UInt8) (acc : Nat), acc ≤ valA acc l
  | [], _ => Nat.le_refl _
  | c :: r, acc => Nat.le_trans (by omega) (valA_ge r _)
theorem valA_app : ∀ (l m : List UInt8) (acc : Nat), valA acc (l ++ m) = valA (valA acc l) m
  | [], _, _ => rfl
  | c :: r, m, acc => valA_app r m _
theorem pum : ∀ (l : List UInt8) (acc : Nat), (∀ c ∈ l, 48 ≤ c.toNat ∧ c.toNat ≤ 57) → acc ≤ 18446744073709551615 →
    Lib.parseUintM 18446744073709551615 acc l = if valA acc l ≤ 18446744073709551615 then .ok (valA acc l) else .range
  | [], acc, _, h => by show Lib.NumEnd.ok acc = if acc ≤ _ then _ else _; rw [if_pos h]; rfl
  | c :: r, acc, hd, h => by
    have hc := hd c (by simp)
    have hge := valA_ge r (acc * 10 + (c.toNat - 48))
    have e : valA acc (c :: r) = valA (acc * 10 + (c.toNat - 48)) r := rfl
    rw [e, Lib.parseUintM, if_pos hc]
    split
    · rw [if_neg (by omega)]
    · split
      · rw [if_neg (by omega)]
      · exact pum r _ (fun x hx => hd x (by simp [hx])) (by omega)
theorem facV_range (l : List UInt8) : facV l = 0 ∨ (1 ≤ facV l ∧ facV l ≤ 1099511627776) := by
  unfold facV
  cases h : sufL.find? (fun x => l == x.1) with
  | none => left; rfl
  | some x =>
    right
    have := List.mem_of_find?_eq_some h
    simp only [sufL, List.mem_cons, List.not_mem_nil, or_false] at this
    rcases this with rfl | rfl | rfl | rfl | rfl | rfl | rfl | rfl | rfl <;> decide
def badV (s : ByteArray) : Bool := decide (figN s = 0) || decide (facV (s.extract (figN s) s.size).toList = 0) || (decide (byteAt s 0 = 48) && decide (1 < figN s))
def quanV (s : ByteArray) : Int := (valA 0 (s.extract 0 (figN s)).toList : Int) * facV (s.extract (figN s) s.size).toList
def parseV (s : ByteArray) : Value := if badV s then .tuple #[.int .i64 0, .int .i64 2] else if 9223372036854775807 < quanV s then .tuple #[.int .i64 0, .int .i64 3] else .tuple #[.int .i64 (quanV s), .int .i64 0]
theorem prefix_dig (s : ByteArray) : ∀ c ∈ (s.extract 0 (figN s)).toList, 48 ≤ c.toNat ∧ c.toNat ≤ 57 := by
  intro c hc
  obtain ⟨j, hj, rfl⟩ := List.getElem_of_mem hc
  have hle := figN_le s
  have hj' : j < figN s := by
    have : (s.extract 0 (figN s)).toList.length = figN s := by rw [Lib.toList_data]; simp; omega
    omega
  have := figN_all s j hj'
  have e : (s.extract 0 (figN s)).toList[j] = s[j]'(by omega) := by
    simp only [Lib.toList_data]
    simp
    rfl
  rw [e]
  rw [byteAt_eq s j (by omega)] at this
  omega
theorem parse_ok {s : ByteArray} (h : valA 0 (s.extract 0 (figN s)).toList ≤ 18446744073709551615) (h0 : figN s ≠ 0) : Lib.parseUintB 64 (s.extract 0 (figN s)).data.toList = .ok (valA 0 (s.extract 0 (figN s)).toList) := by
  have hd := prefix_dig s
  rw [Lib.toList_data] at h hd ⊢
  unfold Lib.parseUintB
  rw [if_neg (fun e => h0 (by have h1 := figN_le s; have h3 : (s.extract 0 (figN s)).data.toList.length = figN s := (by simp; omega); rw [e] at h3; simp only [List.length_nil] at h3; omega))]
  rw [show 2 ^ 64 - 1 = 18446744073709551615 from rfl, pum _ 0 hd (by omega), if_pos h]
theorem parse_over {s : ByteArray} (h : ¬ valA 0 (s.extract 0 (figN s)).toList ≤ 18446744073709551615) (h0 : figN s ≠ 0) : Lib.parseUintB 64 (s.extract 0 (figN s)).data.toList = .range := by
  have hd := prefix_dig s
  rw [Lib.toList_data] at h hd
  unfold Lib.parseUintB
  rw [if_neg (fun e => h0 (by have h1 := figN_le s; have h3 : (s.extract 0 (figN s)).data.toList.length = figN s := (by simp; omega); rw [e] at h3; simp only [List.length_nil] at h3; omega))]
  rw [show 2 ^ 64 - 1 = 18446744073709551615 from rfl, pum _ 0 hd (by omega), if_neg h]
end Go.Proofs.YtdcceaafiammfaaDoor

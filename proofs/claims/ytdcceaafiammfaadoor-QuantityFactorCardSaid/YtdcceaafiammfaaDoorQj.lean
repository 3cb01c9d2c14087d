import Derived.Test.YtdcceaafiammfaaDoorProg
import Derived.Test.YtdcceaafiammfaaDoorQi
namespace Go.Proofs.YtdcceaafiammfaaDoor
open Go.RowKit
set_option linter.unusedVariables false
set_option linter.unusedSimpArgs false
/-! ### The quantity of a list of bytes -/
def figL (l : List UInt8) : Nat := (l.takeWhile isD).length
def badL (l : List UInt8) : Bool := decide (figL l = 0) || decide (facV (l.drop (figL l)) = 0) || (decide (l.head? = some 48) && decide (1 < figL l))
def quanL (l : List UInt8) : Int := (valA 0 (l.take (figL l)) : Int) * facV (l.drop (figL l))
def parseL (l : List UInt8) : Value := if badL l then .tuple #[.int .i64 0, .int .i64 2] else if 9223372036854775807 < quanL l then .tuple #[.int .i64 0, .int .i64 3] else .tuple #[.int .i64 (quanL l), .int .i64 0]
theorem byte48 (s : ByteArray) : decide (byteAt s 0 = 48) = decide (s.data.toList.head? = some 48) := by
  by_cases h : 0 < s.size
  · have hl : 0 < s.data.toList.length := by simpa using h
    rw [byteAt_list s 0 hl, List.head?_eq_getElem?, List.getElem?_eq_getElem hl]
    generalize s.data.toList[0] = c
    apply decide_eq_decide.2
    constructor
    · intro e; have h2 : c.toNat = 48 := by omega
      have : c = 48 := UInt8.toNat_inj.1 (by rw [h2]; rfl)
      rw [this]
    · intro e; cases e; rfl
  · have hl : s.data.toList = [] := List.eq_nil_of_length_eq_zero (by have e : s.data.toList.length = s.size := (by simp); omega)
    rw [hl]
    unfold byteAt; rw [dif_neg h]; rfl
theorem suffix_eq (s : ByteArray) (n : Nat) : (s.extract n s.size).toList = s.data.toList.drop n := by
  rw [Lib.toList_data]; simp [ByteArray.data_extract]
  rw [List.take_of_length_le (by simp)]
theorem prefix_eq (s : ByteArray) (n : Nat) : (s.extract 0 n).toList = s.data.toList.take n := by
  rw [Lib.toList_data]; simp [ByteArray.data_extract]
theorem parse_list (s : ByteArray) : parseV s = parseL s.data.toList := by
  unfold parseV parseL badV badL quanV quanL
  rw [byte48, suffix_eq, prefix_eq]
  rfl
theorem p1 : parseV ⟨#[50, 75, 105]⟩ = .tuple #[.int .i64 2048, .int .i64 0] := by rw [parse_list]; kernel_rfl
theorem p2 : parseV ⟨#[57, 50, 50, 51, 51, 55, 50, 48, 51, 54, 56, 53, 52, 55, 55, 53, 56, 48, 55]⟩ = .tuple #[.int .i64 9223372036854775807, .int .i64 0] := by rw [parse_list]; kernel_rfl
theorem p3 : parseV ⟨#[57, 50, 50, 51, 51, 55, 50, 48, 51, 54, 56, 53, 52, 55, 55, 53, 56, 48, 56]⟩ = .tuple #[.int .i64 0, .int .i64 3] := by rw [parse_list]; kernel_rfl
theorem p4 : parseV ⟨#[48, 49]⟩ = .tuple #[.int .i64 0, .int .i64 2] := by rw [parse_list]; kernel_rfl
theorem p5 : parseV ⟨#[49, 75, 98]⟩ = .tuple #[.int .i64 0, .int .i64 2] := by rw [parse_list]; kernel_rfl
theorem p6 : parseV ⟨#[57, 57, 57, 57, 57, 57, 57, 57, 57, 57, 57, 57, 57, 57, 57, 57, 57, 57, 57, 57, 57, 57, 57, 84, 105]⟩ = .tuple #[.int .i64 0, .int .i64 3] := by rw [parse_list]; kernel_rfl
theorem tv {n : Int} {k : Nat} {q : Int} {l : List UInt8} {s : ByteArray} (h0 : 0 < n) (hb : bestI n 9 = k) (hq : n / sufF k = q) (hl : Lib.itoa q = l) (hs : (⟨l.toArray⟩ : ByteArray) ++ sufT k = s) : textV n = s := by
  rw [textV, if_neg (by omega), if_neg (by omega), hb, hq, hl, hs]
theorem t1 : textV 2048 = ⟨#[50, 75, 105]⟩ := tv (k := 2) (q := 2) (by decide) (by decide) (by decide) (itoa_small (by decide) (by decide)) (by rfl)
theorem t2 : textV 1024000 = ⟨#[49, 48, 48, 48, 75, 105]⟩ := tv (k := 2) (q := 1000) (by decide) (by decide) (by decide) (by rw [itoa_step (by decide), show (1000 : Int) / 10 = 100 from rfl, itoa_step (by decide), show (100 : Int) / 10 = 10 from rfl, itoa_step (by decide), show (10 : Int) / 10 = 1 from rfl, itoa_small (by decide) (by decide)]) (by rfl)
theorem t3 : textV 3000 = ⟨#[51, 107]⟩ := tv (k := 1) (q := 3) (by decide) (by decide) (by decide) (itoa_small (by decide) (by decide)) (by rfl)
theorem t4 : textV 0 = ⟨#[48]⟩ := rfl
theorem t5 : textV (-1) = ⟨#[]⟩ := rfl
theorem f1 : facV (⟨#[71]⟩ : ByteArray).toList = 1000000000 := by rw [Lib.toList_data]; rfl
theorem f2 : facV (⟨#[109]⟩ : ByteArray).toList = 0 := by rw [Lib.toList_data]; rfl
set_option maxHeartbeats 4000000 in
set_option maxRecDepth 100000 in
theorem alive3_calls (w : World) (q : QV w) : Calls Tryd.prog 6 #[] w fun e w' => e = .returned (.bool true) ∧ Below w.heap.size w w' := by
  have hB := Below.refl w.heap.size w
  have Q := Lib.hid q
  clear q
  go_enter Tryd.func6, Tryd.ntmps6
  go_wp2_with (first | (go_at_call 7; refine (qparse_calls _ _ (Q.out.below hB) (by decide)).mono ?_; rintro e w' ⟨rfl, hb⟩; (first | rw [p1] | rw [p2] | rw [p3] | rw [p4] | rw [p5] | rw [p6]); have hB := bl_next hB hb; clear hb) | (go_at_call 9; refine (qtext_calls _ _ (Q.out.below hB) (by decide) (by decide)).mono ?_; rintro e w' ⟨rfl, hb⟩; (first | rw [t1] | rw [t2] | rw [t3] | rw [t4] | rw [t5]); have hB := bl_next hB hb; clear hb) | (go_at_call 11; refine (qfactor_calls _ _ (Q.out.below hB)).mono ?_; rintro e w' ⟨rfl, hb⟩; (first | rw [f1] | rw [f2]); have hB := bl_next hB hb; clear hb))
  go_ret
  exact ⟨rfl, hB⟩
end Go.Proofs.YtdcceaafiammfaaDoor

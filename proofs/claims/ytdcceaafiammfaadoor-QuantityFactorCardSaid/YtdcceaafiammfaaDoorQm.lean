import Derived.Test.YtdcceaafiammfaaDoorProg
import Derived.Test.YtdcceaafiammfaaDoorQl
namespace Go.Proofs.YtdcceaafiammfaaDoor
open Go.RowKit
set_option linter.unusedVariables false
set_option linter.unusedSimpArgs false
theorem valA_lt : ∀ (l : List UInt8) (acc : Nat), (∀ c ∈ l, isD c = true) → valA acc l < (acc + 1) * 10 ^ l.length
  | [], acc, _ => by show acc < (acc + 1) * 1; omega
  | c :: r, acc, h => by
    have hc := h c (by simp)
    simp only [isD, Bool.and_eq_true, decide_eq_true_eq] at hc
    have h1 := valA_lt r (acc * 10 + (c.toNat - 48)) (fun x hx => h x (by simp [hx]))
    have h2 : (acc * 10 + (c.toNat - 48) + 1) * 10 ^ r.length ≤ ((acc + 1) * 10) * 10 ^ r.length := Nat.mul_le_mul_right _ (by omega)
    rw [List.length_cons, Nat.pow_succ, Nat.mul_comm (10 ^ r.length) 10, ← Nat.mul_assoc]
    exact Nat.lt_of_lt_of_le h1 h2
theorem facV_is (l : List UInt8) (h : facV l ≠ 0) : ∃ i, i < 9 ∧ facV l = sufF i := by
  unfold facV at h ⊢
  cases hf : sufL.find? (fun x => l == x.1) with
  | none => rw [hf] at h; exact absurd rfl h
  | some x =>
    have := List.mem_of_find?_eq_some hf
    simp only [sufL, List.mem_cons, List.not_mem_nil, or_false] at this
    rcases this with rfl | rfl | rfl | rfl | rfl | rfl | rfl | rfl | rfl
    · exact ⟨0, by decide, rfl⟩
    · exact ⟨1, by decide, rfl⟩
    · exact ⟨2, by decide, rfl⟩
    · exact ⟨3, by decide, rfl⟩
    · exact ⟨4, by decide, rfl⟩
    · exact ⟨5, by decide, rfl⟩
    · exact ⟨6, by decide, rfl⟩
    · exact ⟨7, by decide, rfl⟩
    · exact ⟨8, by decide, rfl⟩
theorem sufF_mono {i j : Nat} (h : i ≤ j) (hj : j < 9) : sufF i ≤ sufF j := by
  have : ∀ j : Fin 9, ∀ i : Fin 9, i ≤ j → sufF i ≤ sufF j := by decide
  exact this ⟨j, hj⟩ ⟨i, by omega⟩ h
theorem fig_text (b : Int) (u : Nat) (k : Nat) (i : Nat) (hi : i < 9) (h0 : 0 ≤ b) (hb : b = (u : Int) * sufF i) (hu : u < 10 ^ (k + 1)) : figN (textV b) ≤ k + 1 := by
  by_cases hz : b = 0
  · rw [hz, t4]; show 1 ≤ k + 1; omega
  · have hj := bestI_le b 9 (by omega)
    have hfj := sufF_pos (bestI b 9) (by omega)
    have hfi := sufF_pos i hi
    obtain ⟨d1, d2, d3, d4⟩ := dec_dig (b / sufF (bestI b 9)).toNat
    have e : figN (textV b) = (Lib.decDigits (b / sufF (bestI b 9)).toNat).length := by
      show figL (textV b).data.toList = _
      rw [text_list b (by omega)]
      exact (parts d1 (suf_nodig _ (by omega))).1
    rw [e]
    apply dec_len
    have hm : b % sufF i = 0 := by rw [hb]; exact Int.mul_emod_left _ _
    have hle := sufF_mono ((best0 b).2 i hi hm) (by omega)
    have h1 : b / sufF (bestI b 9) ≤ u := by
      apply Int.ediv_le_of_le_mul (by omega)
      exact Int.le_trans (Int.le_of_eq hb) (Int.mul_le_mul_of_nonneg_left hle (by omega))
    have h2 : (b / sufF (bestI b 9)).toNat ≤ u := by omega
    omega
theorem more_parse {d m : List UInt8} {F : Int} {u : Nat} (hd : ∀ c ∈ d, isD c = true) (hm : (m.head?.all fun c => !isD c) = true) (hF : facV m = F) (hF0 : F ≠ 0) (hu : valA 0 d = u) (h48 : d.head? ≠ some 48) (hl : 1 ≤ d.length) :
    parseL (d ++ [48] ++ m) = if 9223372036854775807 < ((10 * u : Nat) : Int) * F then .tuple #[.int .i64 0, .int .i64 3] else .tuple #[.int .i64 (((10 * u : Nat) : Int) * F), .int .i64 0] := by
  have hd2 : ∀ c ∈ d ++ [48], isD c = true := by
    intro c hc
    rcases List.mem_append.1 hc with q | q
    · exact hd c q
    · simp only [List.mem_singleton] at q; rw [q]; rfl
  obtain ⟨e1, e2, e3⟩ := parts hd2 hm
  have hv : valA 0 (d ++ [48]) = 10 * u := by
    rw [valA_app, hu]; show u * 10 + ((48 : UInt8).toNat - 48) = 10 * u
    rw [show (48 : UInt8).toNat = 48 from rfl]; omega
  have hq : quanL (d ++ [48] ++ m) = ((10 * u : Nat) : Int) * F := by unfold quanL; rw [e2, e3, hv, hF]
  have hb : badL (d ++ [48] ++ m) = false := by
    unfold badL
    rw [e3, e1, hF]
    have a1 : decide ((d ++ [48]).length = 0) = false := decide_eq_false (by simp)
    have a2 : decide (F = 0) = false := decide_eq_false hF0
    have a3 : (d ++ [48] ++ m).head? = d.head? := by
      cases d with
      | nil => simp at hl
      | cons a r => rfl
    have a4 : decide (d.head? = some 48) = false := decide_eq_false h48
    rw [a1, a2, a3, a4]; rfl
  unfold parseL
  rw [hb, hq]; rfl
theorem text_size (b : Int) (h2 : b ≤ 9223372036854775807) : (textV b).size ≤ 1000 := by
  by_cases h : b < 0
  · rw [textV, if_pos h]; decide
  · by_cases h0 : b = 0
    · rw [h0, t4]; decide
    · have hj := bestI_le b 9 (by omega)
      have hf := sufF_pos (bestI b 9) (by omega)
      have hs := sufT_size (bestI b 9) (by omega)
      have hd0 : 0 ≤ b / sufF (bestI b 9) := Int.ediv_nonneg (by omega) (by omega)
      have hd1 : b / sufF (bestI b 9) ≤ b := Int.ediv_le_self _ (by omega)
      have hl := itoa_len _ hd0 (by omega)
      rw [textV, if_neg h, if_neg h0, ByteArray.size_append]
      have e : (⟨(Lib.itoa (b / sufF (bestI b 9))).toArray⟩ : ByteArray).size = (Lib.itoa (b / sufF (bestI b 9))).length := rfl
      omega
theorem tuple_inj {a b c d : Int} (h : Value.tuple #[.int .i64 a, .int .i64 b] = .tuple #[.int .i64 c, .int .i64 d]) : a = c ∧ b = d := by
  simpa using h
theorem parse_err {s : ByteArray} {a e : Int} (h : parseV s = .tuple #[.int .i64 a, .int .i64 e]) : e = 0 ∨ a = 0 := by
  unfold parseV at h
  split at h
  · exact .inr (tuple_inj h).1.symm
  · split at h
    · exact .inr (tuple_inj h).1.symm
    · exact .inl (tuple_inj h).2.symm
theorem back_facts {s : ByteArray} {b : Int} (h : parseV s = .tuple #[.int .i64 b, .int .i64 0]) :
    0 ≤ b ∧ b ≤ 9223372036854775807 ∧ figN (textV b) ≤ figN s ∧
    ∃ c g, parseV (s.extract 0 (figN s) ++ ⟨#[48]⟩ ++ s.extract (figN s) s.size) = .tuple #[.int .i64 c, .int .i64 g] ∧ (922337203685477580 < b → g = 3) ∧ (b ≠ 0 → b ≤ 922337203685477580 → g = 0 ∧ c = 10 * b) := by
  rw [parse_list] at h
  unfold parseL at h
  have hbad : badL s.data.toList = false := by
    cases hb : badL s.data.toList with
    | false => rfl
    | true => rw [hb, if_pos rfl] at h; have := (tuple_inj h).2; omega
  rw [hbad, if_neg (by simp)] at h
  have hfit : ¬ 9223372036854775807 < quanL s.data.toList := fun q => by rw [if_pos q] at h; have := (tuple_inj h).2; omega
  rw [if_neg hfit] at h
  have hbq := (tuple_inj h).1.symm
  obtain ⟨d, m, hl, hlen, hd, hm, e1, e2⟩ := split_dig s.data.toList
  unfold quanL at hbq hfit
  rw [← e1, ← e2] at hbq hfit
  obtain ⟨u, hu⟩ : ∃ u, valA 0 d = u := ⟨_, rfl⟩
  rw [hu] at hbq hfit
  unfold badL at hbad
  rw [← e2] at hbad
  simp only [Bool.or_eq_false_iff, Bool.and_eq_false_iff, decide_eq_false_iff_not] at hbad
  obtain ⟨⟨hk0, hF0⟩, hlead⟩ := hbad
  obtain ⟨i, hi, hFi⟩ := facV_is m hF0
  have hfp := sufF_pos i hi
  have hult := valA_lt d 0 hd
  rw [hu] at hult
  have hnn : 0 ≤ (u : Int) * facV m := Int.mul_nonneg (by omega) (by omega)
  have hfig : figN s = d.length := hlen.symm
  have hdl : 1 ≤ d.length := by omega
  refine ⟨by omega, by omega, ?_, ?_⟩
  · rw [hfig]
    obtain ⟨k, hk⟩ : ∃ k, d.length = k + 1 := ⟨d.length - 1, by omega⟩
    rw [hk] at hult ⊢
    exact fig_text b u k i hi (by omega) (by rw [hbq, hFi]) (by omega)
  · have hM : (s.extract 0 (figN s) ++ ⟨#[48]⟩ ++ s.extract (figN s) s.size).data.toList = d ++ [48] ++ m := by
      have a1 := prefix_eq s (figN s)
      have a2 := suffix_eq s (figN s)
      rw [Lib.toList_data] at a1 a2
      have a3 : figN s = figL s.data.toList := rfl
      rw [a3] at a1 a2 ⊢
      rw [← e1] at a1; rw [← e2] at a2
      simp only [ByteArray.data_append, Array.toList_append]
      rw [a1, a2]
    rw [parse_list, hM]
    by_cases h48 : d.head? = some 48
    · have hh : s.data.toList.head? = some 48 := by rw [hl, head_app (by intro e; rw [e] at hdl; simp at hdl)]; exact h48
      have h1 : d.length ≤ 1 := by
        rcases hlead with q | q
        · exact absurd hh q
        · omega
      have hd1 : d = [48] := by
        match d, h48, h1 with
        | [a], h48, _ => simp at h48; rw [h48]
      have hu0 : u = 0 := by rw [← hu, hd1]; rfl
      have hb0 : b = 0 := by rw [hbq, hu0]; simp
      unfold parseL
      split
      · exact ⟨_, _, rfl, fun q => by omega, fun q => absurd hb0 q⟩
      · split <;> exact ⟨_, _, rfl, fun q => by omega, fun q => absurd hb0 q⟩
    · rw [more_parse hd hm rfl hF0 hu h48 hdl]
      have e10 : ((10 * u : Nat) : Int) * facV m = 10 * b := by rw [hbq, Int.natCast_mul, Int.mul_assoc]; rfl
      rw [e10]
      by_cases hbig : 922337203685477580 < b
      · rw [if_pos (by omega)]; exact ⟨_, _, rfl, fun _ => rfl, fun _ q => by omega⟩
      · rw [if_neg (by omega)]; exact ⟨_, _, rfl, fun q => absurd q hbig, fun _ _ => ⟨rfl, rfl⟩⟩
end Go.Proofs.YtdcceaafiammfaaDoor

import Derived.Test.YtdcceaafiammfaaDoorProg
import Derived.Test.YtdcceaafiammfaaDoorQk
namespace Go.Proofs.YtdcceaafiammfaaDoor
open Go.RowKit
set_option linter.unusedVariables false
set_option linter.unusedSimpArgs false
/-! ### Texts of numbers, read again -/
theorem head_app {α : Type} {l m : List α} (h : l ≠ []) : (l ++ m).head? = l.head? := by cases l with
  | nil => exact absurd rfl h
  | cons a r => rfl
theorem dec_step {u : Nat} (h : 10 ≤ u) : Lib.decDigits u = Lib.decDigits (u / 10) ++ [UInt8.ofNat (48 + u % 10)] := by rw [Lib.decDigits, dif_neg (by omega)]
theorem dec_one {u : Nat} (h : u < 10) : Lib.decDigits u = [UInt8.ofNat (48 + u)] := by rw [Lib.decDigits, dif_pos h]
theorem isD_of {d : Nat} (h : d < 10) : isD (UInt8.ofNat (48 + d)) = true ∧ (UInt8.ofNat (48 + d)).toNat = 48 + d := by
  have e : (UInt8.ofNat (48 + d)).toNat = 48 + d := by rw [UInt8.toNat_ofNat']; omega
  refine ⟨?_, e⟩
  simp only [isD, Bool.and_eq_true, decide_eq_true_eq, e]; omega
theorem dec_dig (u : Nat) : (∀ c ∈ Lib.decDigits u, isD c = true) ∧ valA 0 (Lib.decDigits u) = u ∧ 1 ≤ (Lib.decDigits u).length ∧ (10 ≤ u → (Lib.decDigits u).head? ≠ some 48) := by
  induction u using Nat.strongRecOn with
  | ind u ih =>
    by_cases h : u < 10
    · rw [dec_one h]
      have k := isD_of h
      refine ⟨by simpa using k.1, ?_, by simp, fun q => by omega⟩
      show valA (0 * 10 + ((UInt8.ofNat (48 + u)).toNat - 48)) [] = u
      rw [k.2]; show 0 * 10 + (48 + u - 48) = u; omega
    · have h10 : 10 ≤ u := by omega
      obtain ⟨i1, i2, i3, i4⟩ := ih (u / 10) (by omega)
      have k := isD_of (show u % 10 < 10 by omega)
      rw [dec_step h10]
      refine ⟨?_, ?_, by simp, fun _ => ?_⟩
      · intro c hc
        rcases List.mem_append.1 hc with q | q
        · exact i1 c q
        · simp only [List.mem_singleton] at q; rw [q]; exact k.1
      · rw [valA_app, i2]
        show u / 10 * 10 + ((UInt8.ofNat (48 + u % 10)).toNat - 48) = u
        rw [k.2]; omega
      · rw [head_app (by intro e; rw [e] at i3; simp at i3)]
        by_cases h2 : 10 ≤ u / 10
        · exact i4 h2
        · rw [dec_one (by omega)]
          have k2 := isD_of (show u / 10 < 10 by omega)
          intro e
          simp only [List.head?_cons, Option.some.injEq] at e
          have := congrArg UInt8.toNat e
          rw [k2.2] at this
          have : (48 : UInt8).toNat = 48 := rfl
          omega
theorem tw_app {α : Type} {p : α → Bool} : ∀ (l m : List α), (∀ c ∈ l, p c = true) → (m.head?.all fun c => !p c) = true → ((l ++ m).takeWhile p).length = l.length
  | [], [], _, _ => rfl
  | [], b :: m, _, h => by
    have : p b = false := by simpa using h
    simp [List.takeWhile, this]
  | a :: l, m, hl, h => by
    rw [List.cons_append, List.takeWhile_cons_of_pos (hl a (by simp)), List.length_cons, tw_app l m (fun c hc => hl c (by simp [hc])) h, List.length_cons]
/-- Digits, and then something that begins with none. -/
theorem parts {l m : List UInt8} (h1 : ∀ c ∈ l, isD c = true) (h2 : (m.head?.all fun c => !isD c) = true) : figL (l ++ m) = l.length ∧ (l ++ m).take (figL (l ++ m)) = l ∧ (l ++ m).drop (figL (l ++ m)) = m := by
  have e : figL (l ++ m) = l.length := tw_app l m h1 h2
  rw [e]
  exact ⟨rfl, List.take_left, List.drop_left⟩
/-- Any list: its digits, and the rest. -/
theorem split_dig (l : List UInt8) : ∃ d m, l = d ++ m ∧ d.length = figL l ∧ (∀ c ∈ d, isD c = true) ∧ (m.head?.all fun c => !isD c) = true ∧ d = l.take (figL l) ∧ m = l.drop (figL l) := by
  refine ⟨l.take (figL l), l.drop (figL l), (List.take_append_drop _ _).symm, ?_, ?_, ?_, rfl, rfl⟩
  · rw [List.length_take]
    have : figL l ≤ l.length := (List.takeWhile_sublist isD).length_le
    omega
  · intro c hc
    obtain ⟨j, hj, rfl⟩ := List.getElem_of_mem hc
    rw [List.getElem_take]
    rw [List.length_take] at hj
    exact tw_all l j (by omega) (by show j < figL l; omega)
  · rw [List.head?_drop]
    by_cases h : figL l < l.length
    · rw [List.getElem?_eq_getElem h]
      have := tw_stop (p := isD) l h
      simp only [Option.all_some]
      show (!isD l[(l.takeWhile isD).length]) = true
      rw [this]; rfl
    · rw [List.getElem?_eq_none (by omega)]; rfl
theorem suf_nodig (k : Nat) (h : k < 9) : (((sufT k).data.toList).head?.all fun c => !isD c) = true := by
  match k, h with
  | 0, _ | 1, _ | 2, _ | 3, _ | 4, _ | 5, _ | 6, _ | 7, _ | 8, _ => rfl
theorem facV_suf' (k : Nat) (h : k < 9) : facV (sufT k).data.toList = sufF k := by rw [← Lib.toList_data]; exact facV_suf k h
/-- A number's figures, with a suffix, read again. -/
theorem parse_text (u k : Nat) (hk : k < 9) (hm : (u : Int) * sufF k ≤ 9223372036854775807) : parseL (Lib.decDigits u ++ (sufT k).data.toList) = .tuple #[.int .i64 ((u : Int) * sufF k), .int .i64 0] := by
  obtain ⟨d1, d2, d3, d4⟩ := dec_dig u
  obtain ⟨e1, e2, e3⟩ := parts d1 (suf_nodig k hk)
  have hf := sufF_pos k hk
  have hq : quanL (Lib.decDigits u ++ (sufT k).data.toList) = (u : Int) * sufF k := by unfold quanL; rw [e2, e3, d2, facV_suf' k hk]
  have hb : badL (Lib.decDigits u ++ (sufT k).data.toList) = false := by
    unfold badL
    rw [e3, e1, facV_suf' k hk, head_app (by intro e; rw [e] at d3; simp at d3)]
    have a1 : decide ((Lib.decDigits u).length = 0) = false := decide_eq_false (by omega)
    have a2 : decide (sufF k = 0) = false := decide_eq_false (by omega)
    rw [a1, a2]
    simp only [Bool.false_or, Bool.and_eq_false_iff, decide_eq_false_iff_not]
    by_cases h : 10 ≤ u
    · exact .inl (d4 h)
    · right; rw [dec_one (by omega)]; simp
  unfold parseL
  rw [hb, hq, if_neg (by simp), if_neg (by omega)]
theorem text_list (n : Int) (h : 0 < n) : (textV n).data.toList = Lib.decDigits (n / sufF (bestI n 9)).toNat ++ (sufT (bestI n 9)).data.toList := by
  have hf := sufF_pos (bestI n 9) (by have := bestI_le n 9 (by omega); omega)
  have h0 : 0 ≤ n / sufF (bestI n 9) := Int.ediv_nonneg (by omega) (by omega)
  rw [textV, if_neg (by omega), if_neg (by omega), Lib.itoa, if_neg (by omega)]
  simp
theorem best_div (n : Int) : ∀ k, (∃ j, j < k ∧ n % sufF j = 0) → n % sufF (bestI n k) = 0 ∧ ∀ j, j < k → n % sufF j = 0 → j ≤ bestI n k
  | 0, ⟨j, h, _⟩ => by omega
  | k + 1, ⟨j, h, hj⟩ => by
    unfold bestI
    by_cases hk : n % sufF k = 0
    · rw [if_pos hk]; exact ⟨hk, fun i hi _ => by omega⟩
    · rw [if_neg hk]
      have hjk : j < k := by rcases Nat.lt_succ_iff_lt_or_eq.1 h with q | rfl; exact q; exact absurd hj hk
      obtain ⟨a, b⟩ := best_div n k ⟨j, hjk, hj⟩
      refine ⟨a, fun i hi h2 => b i ?_ h2⟩
      rcases Nat.lt_succ_iff_lt_or_eq.1 hi with q | rfl
      · exact q
      · exact absurd h2 hk
theorem best0 (n : Int) : n % sufF (bestI n 9) = 0 ∧ ∀ j, j < 9 → n % sufF j = 0 → j ≤ bestI n 9 := best_div n 9 ⟨0, by decide, Int.emod_one n⟩
theorem text_parse (n : Int) (h : 0 ≤ n) (h2 : n ≤ 9223372036854775807) : parseV (textV n) = .tuple #[.int .i64 n, .int .i64 0] := by
  by_cases h0 : n = 0
  · subst h0; rw [t4, parse_list]; kernel_rfl
  · have hb := bestI_le n 9 (by omega)
    have hf := sufF_pos (bestI n 9) (by omega)
    have hd := Int.ediv_nonneg h (show 0 ≤ sufF (bestI n 9) by omega)
    have hm : n / sufF (bestI n 9) * sufF (bestI n 9) = n := Int.ediv_mul_cancel (Int.dvd_of_emod_eq_zero (best0 n).1)
    have e : ((n / sufF (bestI n 9)).toNat : Int) = n / sufF (bestI n 9) := by omega
    rw [parse_list, text_list n (by omega), parse_text _ _ (by omega) (by rw [e, hm]; exact h2), e, hm]
theorem text_empty (n : Int) : (textV n).toList.isEmpty = decide (n < 0) := by
  rw [Lib.toList_data]
  by_cases h : n < 0
  · rw [textV, if_pos h]; simp [h]
  · by_cases h0 : n = 0
    · subst h0; rfl
    · rw [text_list n (by omega)]
      obtain ⟨_, _, d3, _⟩ := dec_dig (n / sufF (bestI n 9)).toNat
      have : decide (n < 0) = false := decide_eq_false h
      rw [this]
      cases hd : Lib.decDigits (n / sufF (bestI n 9)).toNat with
      | nil => rw [hd] at d3; simp at d3
      | cons a r => rfl
end Go.Proofs.YtdcceaafiammfaaDoor

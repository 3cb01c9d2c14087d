import Derived.Test.YthhfcambdmdgfaaLbk
namespace Go.Proofs.Ythhfcambdmdgfaa
theorem bl_irrefl : ∀ l : List UInt8, Op.bytesLess l l = false
  | [] => rfl
  | a :: l => by simp [Op.bytesLess, bl_irrefl l]
theorem bl_asymm : ∀ l m : List UInt8, Op.bytesLess l m = true → Op.bytesLess m l = false
  | [], [] => by simp [Op.bytesLess]
  | [], _ :: _ => by simp [Op.bytesLess]
  | _ :: _, [] => by simp [Op.bytesLess]
  | a :: l, b :: m => by
    simp only [Op.bytesLess, Bool.or_eq_true, decide_eq_true_eq, Bool.and_eq_true, beq_iff_eq, Bool.or_eq_false_iff, decide_eq_false_iff_not, Bool.and_eq_false_iff]
    rintro (h | ⟨rfl, h⟩)
    · have h' : a.toNat < b.toNat := UInt8.lt_iff_toNat_lt.1 h
      exact ⟨fun h2 => by have := UInt8.lt_iff_toNat_lt.1 h2; omega, Or.inl (by simp; rintro rfl; omega)⟩
    · exact ⟨fun h2 => by have := UInt8.lt_iff_toNat_lt.1 h2; omega, Or.inr (bl_asymm l m h)⟩
theorem blt_trans : ∀ l m n : List UInt8, Op.bytesLess l m = true → Op.bytesLess m n = true → Op.bytesLess l n = true
  | [], _, [] => fun h1 h2 => by cases ‹List UInt8› <;> simp [Op.bytesLess] at h1 h2
  | [], _, _ :: _ => fun _ _ => by simp [Op.bytesLess]
  | _ :: _, [], _ => fun h => by simp [Op.bytesLess] at h
  | _ :: _, _ :: _, [] => fun _ h => by simp [Op.bytesLess] at h
  | a :: l, b :: m, c :: n => by
    simp only [Op.bytesLess, Bool.or_eq_true, decide_eq_true_eq, Bool.and_eq_true, beq_iff_eq]
    rintro (h | ⟨rfl, h⟩) (h2 | ⟨rfl, h2⟩)
    · exact Or.inl (UInt8.lt_trans h h2)
    · exact Or.inl h
    · exact Or.inl h2
    · exact Or.inr ⟨rfl, blt_trans l m n h h2⟩
theorem bl_total : ∀ l m : List UInt8, l ≠ m → Op.bytesLess l m = false → Op.bytesLess m l = true
  | [], [] => by simp
  | [], _ :: _ => by simp [Op.bytesLess]
  | _ :: _, [] => by simp [Op.bytesLess]
  | a :: l, b :: m => by
    intro hn h
    simp only [Op.bytesLess, Bool.or_eq_false_iff, decide_eq_false_iff_not, Bool.and_eq_false_iff, Bool.or_eq_true, decide_eq_true_eq, Bool.and_eq_true, beq_iff_eq] at *
    obtain ⟨h1, h2⟩ := h
    by_cases e : a = b
    · subst e
      right
      refine ⟨rfl, bl_total l m (by simpa using hn) ?_⟩
      rcases h2 with h2 | h2
      · simp at h2
      · exact h2
    · left
      have h1' : ¬ a.toNat < b.toNat := fun h => h1 (UInt8.lt_iff_toNat_lt.2 h)
      exact UInt8.lt_iff_toNat_lt.2 (by have : a.toNat ≠ b.toNat := fun h => e (UInt8.toNat_inj.1 h); omega)
theorem getElem_data (s : ByteArray) (i : Nat) (h : i < s.size) : s.data.toList[i]? = some s[i] := by
  rw [ByteArray.getElem_eq_getElem_data]; simp
theorem findAt_append (a r : ByteArray) (c : UInt8) (ha : ∀ x ∈ a.data.toList, x ≠ c) : findAt (a ++ ⟨#[c]⟩ ++ r) c 0 = a.size := by
  have hz : (a ++ ⟨#[c]⟩ ++ r).size = a.size + 1 + r.size := by simp [ByteArray.size_append]; rfl
  have hd : (a ++ ⟨#[c]⟩ ++ r).data.toList = a.data.toList ++ c :: r.data.toList := by simp
  refine findAt_unique _ c a.size (by omega) ?_ (fun j hj => ?_)
  · have := getElem_data (a ++ ⟨#[c]⟩ ++ r) a.size (by omega)
    rw [hd, List.getElem?_append_right (by simp)] at this
    simpa using this.symm
  · have := getElem_data (a ++ ⟨#[c]⟩ ++ r) j (by omega)
    rw [hd, List.getElem?_append_left (by simpa using hj)] at this
    exact ha _ (List.mem_of_getElem? this)
theorem ba_ext {a b : ByteArray} (h : a.data.toList = b.data.toList) : a = b := ByteArray.ext (Array.toList_inj.1 h)
theorem cutA_append (a r : ByteArray) (c : UInt8) (ha : ∀ x ∈ a.data.toList, x ≠ c) : cutA (a ++ ⟨#[c]⟩ ++ r) c = a := by
  rw [cutA, findAt_append a r c ha]
  refine ba_ext ?_
  simp [ByteArray.data_extract]
theorem cutB_append (a r : ByteArray) (c : UInt8) (ha : ∀ x ∈ a.data.toList, x ≠ c) : cutB (a ++ ⟨#[c]⟩ ++ r) c = r := by
  rw [cutB, findAt_append a r c ha]
  refine ba_ext ?_
  simp [ByteArray.data_extract, ByteArray.size_append, List.drop_append]
  rw [List.drop_of_length_le (by simp), show ({ data := #[c] } : ByteArray).size = 1 from rfl, show a.size + 1 + r.size - (a.size + 1) = r.size from by omega, List.take_of_length_le (l := r.data.toList) (by simp)]
  simp
theorem sign_ne {x : UInt8} (h : signB (x.toNat : Int) = true) : x ≠ 47 := by rintro rfl; simp [signB] at h
theorem right_ne {s : ByteArray} (h : rightB s = true) : ∀ x ∈ s.data.toList, x ≠ 47 := by
  intro x hx
  simp only [rightB, Bool.and_eq_true, lettersTo] at h
  rw [List.take_of_length_le (by simp)] at h
  exact sign_ne (List.all_eq_true.1 h.1.1.1.1 x hx)
theorem keyText_eq (k s n : ByteArray) : keyText k s n = s ++ ⟨#[47]⟩ ++ (k ++ ⟨#[47]⟩ ++ n) := by simp [keyText, ByteArray.append_assoc]
def pS (s : ByteArray) : ByteArray := cutA s 47
def pK (s : ByteArray) : ByteArray := cutA (cutB s 47) 47
def pN (s : ByteArray) : ByteArray := cutB (cutB s 47) 47
theorem parse_text {k s n : ByteArray} (h : keyB k s n = true) : pK (keyText k s n) = k ∧ pS (keyText k s n) = s ∧ pN (keyText k s n) = n := by
  simp only [keyB, Bool.and_eq_true] at h
  have h1 := right_ne h.1.1; have h2 := right_ne h.1.2
  refine ⟨?_, ?_, ?_⟩
  · rw [pK, keyText_eq, cutB_append _ _ _ h1, cutA_append _ _ _ h2]
  · rw [pS, keyText_eq, cutA_append _ _ _ h1]
  · rw [pN, keyText_eq, cutB_append _ _ _ h1, cutB_append _ _ _ h2]
theorem keyText_inj {k s n k' s' n' : ByteArray} (h : keyB k s n = true) (h' : keyB k' s' n' = true) (e : keyText k s n = keyText k' s' n') : k = k' ∧ s = s' ∧ n = n' := by
  obtain ⟨a1, a2, a3⟩ := parse_text h
  obtain ⟨b1, b2, b3⟩ := parse_text h'
  rw [e] at a1 a2 a3
  exact ⟨a1.symm.trans b1, a2.symm.trans b2, a3.symm.trans b3⟩
end Go.Proofs.Ythhfcambdmdgfaa

import GoSem.Op.String
import Derived.Lib.IndexLaws
import Derived.Sort.Walk0
import Derived.Test.YthhfcambdmdgfaaBase
namespace Go.Proofs.Ythhfcambdmdgfaa
theorem bl_diff : ∀ (k : Nat) (l m : List UInt8), l.take k = m.take k → ∀ (h1 : k < l.length) (h2 : k < m.length), l[k] ≠ m[k] → Op.bytesLess l m = decide (l[k] < m[k])
  | _, [], _, _, h1, _, _ => by simp at h1
  | _, _ :: _, [], _, _, h2, _ => by simp at h2
  | 0, a :: l, b :: m, _, _, _, hn => by
    have : (a == b) = false := by simpa using hn
    simp [Op.bytesLess, this]
  | k + 1, a :: l, b :: m, he, h1, h2, hn => by
    simp only [List.take_succ_cons, List.cons.injEq] at he
    obtain ⟨rfl, he⟩ := he
    have := bl_diff k l m he (by simpa using h1) (by simpa using h2) (by simpa using hn)
    simp [Op.bytesLess, this]
theorem bl_end : ∀ (k : Nat) (l m : List UInt8), l.take k = m.take k → k ≤ l.length → k ≤ m.length → (k = l.length ∨ k = m.length) → Op.bytesLess l m = decide (l.length < m.length)
  | _, [], [], _, _, _, _ => by simp [Op.bytesLess]
  | _, [], _ :: _, _, _, _, _ => by simp [Op.bytesLess]
  | _, _ :: _, [], _, _, _, _ => by simp [Op.bytesLess]
  | 0, a :: l, b :: m, _, _, _, h => by simp at h
  | k + 1, a :: l, b :: m, he, h1, h2, h => by
    simp only [List.take_succ_cons, List.cons.injEq] at he
    obtain ⟨rfl, he⟩ := he
    have := bl_end k l m he (by simpa using h1) (by simpa using h2) (by simpa using h)
    simp [Op.bytesLess, this]
theorem bless_diff (a b : ByteArray) (k : Nat) (he : a.data.toList.take k = b.data.toList.take k) (h1 : k < a.size) (h2 : k < b.size) (hn : ((a[k]'h1).toNat : Int) ≠ ((b[k]'h2).toNat : Int)) :
    Op.bytesLess a.toList b.toList = decide (((a[k]'h1).toNat : Int) < ((b[k]'h2).toNat : Int)) := by
  rw [Lib.toList_data, Lib.toList_data, bl_diff k _ _ he (by simpa using h1) (by simpa using h2)]
  · have e : ∀ x y : UInt8, (x < y) = ((x.toNat : Int) < (y.toNat : Int)) := fun x y => by rw [UInt8.lt_iff_toNat_lt]; simp
    simp [e, ByteArray.getElem_eq_getElem_data]
  · intro h
    apply hn
    simp only [ByteArray.getElem_eq_getElem_data]
    simpa using congrArg (fun x : UInt8 => (x.toNat : Int)) h
theorem bless_end (a b : ByteArray) (k : Nat) (he : a.data.toList.take k = b.data.toList.take k) (h1 : k ≤ a.size) (h2 : k ≤ b.size) (h : k = a.size ∨ k = b.size) :
    Op.bytesLess a.toList b.toList = decide (a.size < b.size) := by
  rw [Lib.toList_data, Lib.toList_data, bl_end k _ _ he (by simpa using h1) (by simpa using h2) (by simpa using h)]
  simp
theorem take_snoc (s : ByteArray) (k : Nat) (h : k < s.size) : s.data.toList.take (k + 1) = s.data.toList.take k ++ [s[k]] := by
  rw [List.take_succ_eq_append_getElem (by simpa using h)]; rfl
theorem u8_of_int {a b : UInt8} (h : (a.toNat : Int) = (b.toNat : Int)) : a = b := UInt8.toNat_inj.1 (by omega)
/-- Where a byte is first, from a place on; the text's end, if it is nowhere. -/
def findAt (s : ByteArray) (c : UInt8) (i : Nat) : Nat := if h : i < s.size then (if s[i] = c then i else findAt s c (i + 1)) else s.size
termination_by s.size - i
theorem findAt_lt (s : ByteArray) (c : UInt8) (i : Nat) (h : i < s.size) : findAt s c i = if s[i] = c then i else findAt s c (i + 1) := by
  rw [findAt, dif_pos h]
theorem findAt_end (s : ByteArray) (c : UInt8) (i : Nat) (h : s.size ≤ i) : findAt s c i = s.size := by
  rw [findAt, dif_neg (by omega)]
theorem findAt_le (s : ByteArray) (c : UInt8) (i : Nat) : findAt s c i ≤ s.size := by
  by_cases h : i < s.size
  · rw [findAt_lt s c i h]
    split
    · omega
    · exact findAt_le s c (i + 1)
  · rw [findAt_end s c i (by omega)]
    exact Nat.le_refl _
termination_by s.size - i
theorem findAt_ge (s : ByteArray) (c : UInt8) (i : Nat) (h : i ≤ s.size) : i ≤ findAt s c i := by
  by_cases h1 : i < s.size
  · rw [findAt_lt s c i h1]
    split
    · omega
    · have := findAt_ge s c (i + 1) (by omega); omega
  · rw [findAt_end s c i (by omega)]; omega
termination_by s.size - i
theorem findAt_is (s : ByteArray) (c : UInt8) (i : Nat) (hlt : findAt s c i < s.size) : s[findAt s c i] = c := by
  by_cases h1 : i < s.size
  · have e := findAt_lt s c i h1
    by_cases h2 : s[i] = c
    · rw [if_pos h2] at e; simp only [e]; exact h2
    · rw [if_neg h2] at e; have h3 : findAt s c (i + 1) < s.size := by omega
      have := findAt_is s c (i + 1) h3
      simp only [e]; exact this
  · rw [findAt_end s c i (by omega)] at hlt; omega
termination_by s.size - i
theorem findAt_none (s : ByteArray) (c : UInt8) (i : Nat) : ∀ j (_ : i ≤ j) (h : j < findAt s c i), s[j]'(by have := findAt_le s c i; omega) ≠ c := by
  intro j hj h
  have hle := findAt_le s c i
  by_cases h1 : i < s.size
  · have e := findAt_lt s c i h1
    by_cases h2 : s[i] = c
    · rw [if_pos h2] at e; omega
    · rw [if_neg h2] at e
      by_cases h3 : i = j
      · subst h3; exact h2
      · exact findAt_none s c (i + 1) j (by omega) (by omega)
  · omega
termination_by s.size - i
theorem findAt_unique (s : ByteArray) (c : UInt8) (k : Nat) (hk : k < s.size) (h1 : s[k] = c) (h2 : ∀ j (h : j < k), s[j]'(by omega) ≠ c) : findAt s c 0 = k := by
  rcases Nat.lt_trichotomy (findAt s c 0) k with h | h | h
  · exact absurd (findAt_is s c 0 (by omega)) (h2 _ h)
  · exact h
  · exact absurd h1 (findAt_none s c 0 k (by omega) h)
theorem findAt_miss (s : ByteArray) (c : UInt8) (h2 : ∀ j (h : j < s.size), s[j] ≠ c) : findAt s c 0 = s.size := by
  have := findAt_le s c 0
  by_cases h : findAt s c 0 < s.size
  · exact absurd (findAt_is s c 0 h) (h2 _ h)
  · omega
theorem indexByte_find (s : ByteArray) (c : UInt8) : Lib.indexByte s.data.toList c = if findAt s c 0 < s.size then (findAt s c 0 : Int) else -1 := by
  have hge := Lib.indexByte_ge s.data.toList c
  by_cases hm : Lib.indexByte s.data.toList c = -1
  · rw [hm, if_neg]
    have := Lib.indexByte_none hm
    rw [findAt_miss s c (fun j h e => this j (by rw [← e, ByteArray.getElem_eq_getElem_data]; simp [h]))]
    omega
  · obtain ⟨o, ho⟩ : ∃ o : Nat, Lib.indexByte s.data.toList c = o := ⟨(Lib.indexByte s.data.toList c).toNat, by omega⟩
    obtain ⟨h1, h2⟩ := Lib.indexByte_some ho
    have hlt : o < s.size := by have := (List.getElem?_eq_some_iff.1 h1).1; simpa using this
    have : findAt s c 0 = o := findAt_unique s c o hlt (by
      have := (List.getElem?_eq_some_iff.1 h1).2
      rw [ByteArray.getElem_eq_getElem_data]; simpa using this) (fun j h e => h2 j h (by rw [← e, ByteArray.getElem_eq_getElem_data]; simp))
    rw [this, if_pos hlt, ho]
/-- What is ahead of the first c, and what is behind it. -/
def cutA (s : ByteArray) (c : UInt8) : ByteArray := s.extract 0 (findAt s c 0)
def cutB (s : ByteArray) (c : UInt8) : ByteArray := s.extract (findAt s c 0 + 1) s.size
theorem cutA_none {s : ByteArray} {c : UInt8} (h : ¬ findAt s c 0 < s.size) : cutA s c = s := by
  have : findAt s c 0 = s.size := by have := findAt_le s c 0; omega
  simp [cutA, this]
theorem cutB_none {s : ByteArray} {c : UInt8} (h : ¬ findAt s c 0 < s.size) : cutB s c = ⟨#[]⟩ := by
  have : findAt s c 0 = s.size := by have := findAt_le s c 0; omega
  have h0 : (cutB s c).size = 0 := by simp [cutB, this]
  exact ByteArray.ext (Array.eq_empty_of_size_eq_zero h0)
theorem cutA_size (s : ByteArray) (c : UInt8) : (cutA s c).size ≤ s.size := by simp [cutA]; omega
theorem cutB_size (s : ByteArray) (c : UInt8) : (cutB s c).size ≤ s.size := by simp [cutB]
theorem findAt_extract (s : ByteArray) (c : UInt8) (m : Nat) (hm : m ≤ s.size) (j : Nat) : findAt s c (m + j) = m + findAt (s.extract m s.size) c j := by
  have hz : (s.extract m s.size).size = s.size - m := by simp
  by_cases h : m + j < s.size
  · rw [findAt_lt s c _ h, findAt_lt (s.extract m s.size) c j (by omega), ByteArray.getElem_extract]
    split
    · rfl
    · have := findAt_extract s c m hm (j + 1)
      rw [← this]; congr 1
  · rw [findAt_end s c _ (by omega), findAt_end _ c j (by omega)]; omega
termination_by s.size - (m + j)
theorem size_zero {s : ByteArray} (h : s.size = 0) : s = ⟨#[]⟩ := ByteArray.ext (Array.eq_empty_of_size_eq_zero h)
theorem extract_extract (s : ByteArray) (a : Nat) (i j : Nat) (_ha : a ≤ s.size) (hj : j ≤ s.size - a) : (s.extract a s.size).extract i j = s.extract (a + i) (a + j) := by
  rw [ByteArray.extract_extract]; congr 1; omega
end Go.Proofs.Ythhfcambdmdgfaa

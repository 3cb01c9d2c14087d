import Derived.Test.YtdcceaafiammfaaProg
import Derived.Test.YtdcceaafiammfaaBrefd
namespace Go.Proofs.Ytdcceaafiammfaa
open Go.RowKit
set_option linter.unusedSimpArgs false
set_option linter.unusedVariables false
/-! ### Figures, the lowest one first -/
def digs (u m : Nat) : List Int := (List.range m).map fun j => ((u / 10 ^ j % 10 : Nat) : Int)
def mixd (u v k m : Nat) : List Int := (List.range m).map fun j => (((if j < k then v else u) / 10 ^ j % 10 : Nat) : Int)
theorem digs_length (u m : Nat) : (digs u m).length = m := by simp [digs]
theorem mixd_length (u v k m : Nat) : (mixd u v k m).length = m := by simp [mixd]
theorem mixd_zero (u v m : Nat) : mixd u v 0 m = digs u m := by simp [mixd, digs]
theorem mixd_all (u v m : Nat) : mixd u v m m = digs v m := by
  unfold mixd digs; apply List.map_congr_left; intro j hj; rw [if_pos (List.mem_range.1 hj)]
theorem mixd_getD (u v k m j : Nat) (h : j < m) : (mixd u v k m).getD j 0 = (((if j < k then v else u) / 10 ^ j % 10 : Nat) : Int) := by
  simp [mixd, List.getD_eq_getElem?_getD, h]
theorem digs_getD (u m j : Nat) (h : j < m) : (digs u m).getD j 0 = ((u / 10 ^ j % 10 : Nat) : Int) := by
  simp [digs, List.getD_eq_getElem?_getD, h]
theorem digs_succ (u m : Nat) : digs u m ++ [((u / 10 ^ m % 10 : Nat) : Int)] = digs u (m + 1) := by simp [digs, List.range_succ]
theorem mixd_set (u v k m : Nat) (h : k < m) : (mixd u v k m).set k ((v / 10 ^ k % 10 : Nat) : Int) = mixd u v (k + 1) m := by
  apply List.ext_getElem
  · simp [mixd]
  · intro j h1 h2
    have hj : j < m := by simpa [mixd] using h1
    rw [List.getElem_set]
    simp only [mixd, List.getElem_map, List.getElem_range]
    split
    · rename_i e; subst e; rw [if_pos (by omega)]
    · rename_i e
      by_cases h3 : j < k
      · rw [if_pos h3, if_pos (by omega)]
      · rw [if_neg h3, if_neg (by omega)]
theorem dig_step {u v k cy : Nat} (h : v / 10 ^ k = 2 * (u / 10 ^ k) + cy) :
    (2 * (u / 10 ^ k % 10) + cy) % 10 = v / 10 ^ k % 10 ∧ v / 10 ^ (k + 1) = 2 * (u / 10 ^ (k + 1)) + (2 * (u / 10 ^ k % 10) + cy) / 10 := by
  rw [Nat.pow_succ, ← Nat.div_div_eq_div_mul, ← Nat.div_div_eq_div_mul, h]; omega
/-- The figures from the m-th one down to the r-th. -/
def topB (u m r : Nat) : List UInt8 := (List.range' r (m - r)).reverse.map fun j => UInt8.ofNat (48 + u / 10 ^ j % 10)
theorem topB_start (u m : Nat) : topB u m m = [] := by simp [topB]
theorem topB_step (u m k : Nat) (h : k < m) : topB u m k = topB u m (k + 1) ++ [UInt8.ofNat (48 + u / 10 ^ k % 10)] := by
  unfold topB
  rw [show m - k = (m - (k + 1)) + 1 by omega, List.range'_succ]
  simp
theorem topB_length (u m r : Nat) : (topB u m r).length = m - r := by simp [topB]
theorem topB_up (u m : Nat) : topB u (m + 1) 1 = topB (u / 10) m 0 := by
  unfold topB
  rw [show m + 1 - 1 = m by omega, Nat.sub_zero]
  apply List.ext_getElem
  · simp
  · intro j h1 h2
    have hj : j < m := by simpa using h1
    simp only [List.getElem_map, List.getElem_reverse, List.getElem_range', List.length_range']
    rw [show 1 + 1 * (m - 1 - j) = (0 + 1 * (m - 1 - j)) + 1 by omega, Nat.pow_succ, Nat.mul_comm, ← Nat.div_div_eq_div_mul]
theorem topB_dec : ∀ (m u : Nat), u < 10 ^ (m + 1) → (m = 0 ∨ 10 ^ m ≤ u) → topB u (m + 1) 0 = Lib.decDigits u
  | 0, u, h, _ => by
    rw [dec_figs, topB_step u 1 0 (by decide), topB_start]
    have : u / 10 = 0 := by have : u < 10 := by simpa using h
                            omega
    rw [this]; simp [figs]
  | m + 1, u, h, h2 => by
    have h2 : 10 ^ (m + 1) ≤ u := by rcases h2 with h2 | h2; cases h2; exact h2
    have hp : 0 < 10 ^ m := Nat.pow_pos (by decide)
    have e1 : 10 ^ (m + 1) = 10 * 10 ^ m := by rw [Nat.pow_succ]; omega
    have e2 : 10 ^ (m + 1 + 1) = 10 * 10 ^ (m + 1) := by rw [Nat.pow_succ]; omega
    rw [topB_step u (m + 1 + 1) 0 (by omega), topB_up, topB_dec m (u / 10) (by omega) (.inr (by omega)), dec_figs u, figs, if_neg (by omega)]
    simp
def byts (l : List UInt8) : List Value := l.map fun b => .int .u8 (b.toNat : Int)
theorem byts_length (l : List UInt8) : (byts l).length = l.length := by simp [byts]
theorem byts_append (l : List UInt8) (b : UInt8) : byts l ++ [.int .u8 (b.toNat : Int)] = byts (l ++ [b]) := by simp [byts]
theorem byts_getD {l : List UInt8} {j : Nat} (h : j < l.length) : (byts l).getD j undef = .int .u8 ((l[j]'h).toNat : Int) := by
  simp only [byts, List.getD_eq_getElem?_getD, List.getElem?_map, List.getElem?_eq_getElem h, Option.map_some, Option.getD_some]
theorem dig_byte (d : Nat) (h : d < 10) : ((UInt8.ofNat (48 + d)).toNat : Int) = 48 + (d : Int) := by
  rw [UInt8.toNat_ofNat']; omega
theorem info_u8 : (Try.prog.info? 5).map (fun i => (i.zero, i.size, i.bytes)) = some (some (.int .u8 0), 1, 1) := by kernel_rfl
theorem app_u8 {ops : Array Oper} {rest : List Oper} {o : Oper} {a : Act} {Q : Exit → Act → World → Prop} {w : World} (hgd : o.guard = none) (s x : Operand)
    (ho : o.op = .call { callee := .builtin .append, args := #[s, x], argTypes := #[100, 100] })
    (base : Nat) (tb : TypeId)
    (v : Value) (xs : List Value) (u : Value) (hs : a.eval s = v) (hown : Own w base 5 v xs) (c : Nat) (hx : a.eval x = .slice (some ⟨w.heap.size, 0, none⟩) 1 c) (hu : u.oneCell' = true)
    (hbase : base ≤ w.heap.size) (hlen : xs.length + 1 ≤ 1000000000)
    (h : ∀ v' w1, Own w1 base 5 v' (xs ++ [u]) → Below base w w1 → (∀ k, k < w.heap.size → some k ≠ v.ownBlock → w1.heap[k]? = w.heap[k]?) → wpList Try.prog ops Q rest (a.put o.dst v') w1) :
    wpList Try.prog ops Q (o :: rest) a (w.alloc (.cells #[u] tb)) := by
  obtain ⟨i0, hi, hz0, hz1, hz2⟩ := info_parts info_u8
  exact append1 hgd s x _ ho base _ i0 (.int .u8 0) 1 Try.underlying100 hi hz0 hz1 hz2 rfl tb v xs u hs hown c hx hu hbase hlen (by decide) h
theorem mk_int {ops : Array Oper} {rest : List Oper} {o : Oper} {a : Act} {Q : Exit → Act → World → Prop} {w : World} (hgd : o.guard = none) (l c : Operand) (ho : o.op = .makeSlice 29 l c)
    (base n : Nat) (hl : a.eval l = .int .i64 (n : Int)) (hc : a.eval c = .int .i64 (n : Int)) (hn : n ≤ 1000000) (hbase : base ≤ w.heap.size)
    (h : ∀ w1, Own w1 base 3 (.slice (some ⟨w.heap.size, 0, none⟩) n n) (ints (bits 0 n)) → Below w.heap.size w w1 → wpList Try.prog ops Q rest (a.put o.dst (.slice (some ⟨w.heap.size, 0, none⟩) n n)) w1) :
    wpList Try.prog ops Q (o :: rest) a w := by
  obtain ⟨i0, hi, hz0, hz1, hz2⟩ := info_parts info_int
  refine wpList_make_full _ hgd l c _ ho base 3 i0 (.int .i64 0) 1 Try.underlying29 hi hz0 hz1 .i64 .i64 n n n hl hc rfl rfl (by rw [hz2]; omega) (by unfold maxLen; omega) hbase ?_
  intro w1 h1 h2
  have e : (madeCells (Value.int .i64 0).cells (n * 1)).toList = ints (bits 0 n) := by
    apply List.ext_getElem
    · simp [madeCells, ints, bits_length]
    · intro j h3 h4
      simp [madeCells, ints, bits, Value.cells]
      have e0 : j % 1 = 0 := by omega
      rw [e0]; rfl
  rw [e] at h1
  refine h w1 ?_ ((Below.refl _ _).grown h2 (Nat.le_refl _) (fun k hk => by cases hk))
  unfold Own; rw [ints_length, bits_length]; exact h1
theorem own_made1 (w : World) (base : Nat) (e : TypeId) (u : Value) (h : base ≤ w.heap.size) : Own (w.alloc (.cells #[u] e)) base e (.slice (some ⟨w.heap.size, 0, none⟩) 1 1) [u] :=
  ⟨rfl, .inr ⟨w.heap.size, 1, #[u], rfl, h, blk_new w _, Nat.le_refl 1, by unfold maxLen; decide, rfl, rfl⟩⟩
end Go.Proofs.Ytdcceaafiammfaa

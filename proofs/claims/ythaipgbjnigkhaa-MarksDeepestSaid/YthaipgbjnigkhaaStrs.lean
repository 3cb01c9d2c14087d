import Derived.Test.YthaipgbjnigkhaaTree
import Derived.Test.YthaipgbjnigkhaaTrc
namespace Go.Proofs.Ythaipgbjnigkhaa
open Go.RowKit
set_option linter.unusedVariables false
set_option linter.unusedSimpArgs false
/-! ### Lists of texts -/
def StrS (w : World) (v : Value) (l : List ByteArray) : Prop := ∃ A c, v = .slice A l.length c ∧ l.length ≤ c ∧ (l = [] ∨ ∃ b off, A = some ⟨b, off, none⟩ ∧ ∀ j (h : j < l.length), w.cell? ⟨b, off + j, none⟩ = some (.string (l[j]'h)))
theorem StrS.below {w w' : World} {v : Value} {l : List ByteArray} (h : StrS w v l) (hb : Below w.heap.size w w') : StrS w' v l := by
  obtain ⟨A, c, rfl, hc, h0 | ⟨b, off, rfl, hx⟩⟩ := h
  · exact ⟨A, c, rfl, hc, .inl h0⟩
  · exact ⟨_, c, rfl, hc, .inr ⟨b, off, rfl, fun j hj => cb hb (hx j hj)⟩⟩
theorem strS_of {w : World} {b : Nat} {v : Value} {l : List ByteArray} (h : w.ownsRow b 9 1 v l.length (strC l)) : StrS w v l := by
  rcases Nat.eq_zero_or_pos l.length with h0 | h0
  · have e : l = [] := List.eq_nil_of_length_eq_zero h0
    subst e
    rcases h.2 with ⟨rfl, _⟩ | ⟨g, cap, cur, rfl, _, _, hc, _⟩
    · exact ⟨none, 0, rfl, Nat.le_refl _, .inl rfl⟩
    · exact ⟨_, cap, rfl, hc, .inl rfl⟩
  · obtain ⟨g, cap, rfl⟩ := rw_pos h h0
    have hc : l.length ≤ cap := by
      rcases h.2 with ⟨h9, _⟩ | ⟨g', cap', cur, h9, _, _, hc, _⟩
      · cases h9
      · cases h9; exact hc
    exact ⟨_, cap, rfl, hc, .inr ⟨g, 0, rfl, fun j hj => by rw [Nat.zero_add, (rw_cells h).2.2.1 j (by omega), strC_getD hj]⟩⟩
theorem strS_nil (w : World) : StrS w (.slice none 0 0) [] := ⟨none, 0, rfl, Nat.le_refl _, .inl rfl⟩
theorem StrS.at' {w : World} {v : Value} {l : List ByteArray} (h : StrS w v l) {j : Nat} (hj : j < l.length) : ∃ b off c, v = .slice (some ⟨b, off, none⟩) l.length c ∧ w.cell? ⟨b, off + j, none⟩ = some (.string (l[j]'hj)) := by
  obtain ⟨A, c, rfl, hc, h0 | ⟨b, off, rfl, hx⟩⟩ := h
  · subst h0; cases hj
  · exact ⟨b, off, c, rfl, hx j hj⟩
theorem StrS.form {w : World} {v : Value} {l : List ByteArray} (h : StrS w v l) : ∃ A c, v = .slice A l.length c := by obtain ⟨A, c, rfl, _⟩ := h; exact ⟨_, _, rfl⟩
theorem beq_str (a b : ByteArray) : (a.toList == b.toList) = decide (a = b) := by rw [Bool.eq_iff_iff, beq_iff_eq, decide_eq_true_eq]; exact ba_eq
theorem beqF {a b : ByteArray} (h : ¬ a = b) : (a.toList == b.toList) = false := by rw [beq_str]; simpa using h
theorem neF {a b : ByteArray} (h : ¬ a = b) : ¬ a.toList = b.toList := fun e => h (ba_eq.1 e)
set_option maxRecDepth 100000 in
set_option maxHeartbeats 8000000 in
theorem texts_calls (w : World) {u v : Value} {l m : List ByteArray} (hu : StrS w u l) (hv : StrS w v m) (hl : l.length ≤ 1000000) (hm : m.length ≤ 1000000) :
    Calls Try.prog 16 #[u, v] w fun e w' => e = .returned (.bool (decide (l = m))) ∧ Below w.heap.size w w' := by
  have hB := Below.refl w.heap.size w
  have HU := Lib.hid hu
  have HV := Lib.hid hv
  obtain ⟨au, cu, rfl⟩ := hu.form
  obtain ⟨av, cv, rfl⟩ := hv.form
  clear hu hv
  by_cases hlen : l.length = m.length
  · have hlm : ((l.length : Int) == m.length) = true := by simp; omega
    have HL := Lib.hid hlen
    rw [hlen] at hl ⊢
    rw [hlen] at HU
    have HLM := Lib.hid (show ∀ j (h1 : j < m.length), j < l.length from fun j h => by omega)
    clear hlm hlen
    go_enter Try.func16, Try.ntmps16
    go_wp2
    go_loopw [5] (fun i wr => ∃ k : Nat, i = .int .i64 k ∧ k ≤ m.length ∧ Hid (l.take k = m.take k) ∧ Below w.heap.size w wr) (fun i _ => m.length - (intOf i).toNat)
    case atStart => exact ⟨0, rfl, Nat.zero_le _, Lib.hid rfl, hB⟩
    case round =>
      obtain ⟨k, rfl, hk, HT, hB⟩ := hrel
      by_cases hkl : k < m.length
      · have hkI : (k : Int) < m.length := by omega
        have hk2 := HLM.out k hkl
        obtain ⟨b1, o1, d1, he1, q1⟩ := HU.out.at' hk2
        obtain ⟨b2, o2, d2, he2, q2⟩ := HV.out.at' hkl
        rw [HL.out] at he1
        cases he1
        cases he2
        have q1 := cb hB q1
        have q2 := cb hB q2
        have HX := Lib.hid (List.take_succ_eq_append_getElem hk2)
        have HY := Lib.hid (List.take_succ_eq_append_getElem hkl)
        have HNE := Lib.hid (show l[k]'hk2 ≠ m[k]'hkl → l ≠ m from fun h e => h (by subst e; rfl))
        generalize l[k]'hk2 = x at q1 HX HNE
        generalize m[k]'hkl = y at q2 HY HNE
        obtain ⟨V, rfl⟩ : ∃ V : World, V = wr := ⟨_, rfl⟩
        have HB0 := Lib.hid hB
        have hB := Below.refl V.heap.size V
        go_upto_region 6 with fail
        by_cases hxy : x = y
        · subst hxy
          have hB := hB.drew
          refine region_seq (fun w' => Below V.heap.size V w') [(0, true), (1, true), (2, true), (3, true), (4, true), (5, true), (6, true), (7, true), (8, true)] (by kernel_rfl) (by kernel_rfl) (fun _ _ _ _ h => h) hB ?_
          try generalize World.drew _ = wS at hB ⊢
          refine seq_take (v := ?_) (a' := ?_) (some 17) rfl rfl (by rfl) ?_ ?_ ?_
          rotate_left; rotate_left
          · intro w' hS; go_simp; with_reducible rfl
          · simp only [Act.put, List.setIfInBounds_toArray, List.set_cons_zero, List.set_cons_succ]; rfl
          refine seq_take (v := ?_) (a' := ?_) (some 18) rfl rfl (by rfl) ?_ ?_ ?_
          rotate_left; rotate_left
          · intro w' hS; go_simp; with_reducible rfl
          · simp only [Act.put, List.setIfInBounds_toArray, List.set_cons_zero, List.set_cons_succ]; rfl
          refine seq_take (v := ?_) (a' := ?_) (some 19) rfl rfl (by rfl) ?_ ?_ ?_
          rotate_left; rotate_left
          · intro w' hS; go_simp; with_reducible rfl
          · simp only [Act.put, List.setIfInBounds_toArray, List.set_cons_zero, List.set_cons_succ]; rfl
          refine seq_take (v := ?_) (a' := ?_) (some 20) rfl rfl (by rfl) ?_ ?_ ?_
          rotate_left; rotate_left
          · intro w' hS; have p1 := cb hS q1; have p2 := cb hS q2; go_simp; with_reducible rfl
          · simp only [Act.put, List.setIfInBounds_toArray, List.set_cons_zero, List.set_cons_succ]; rfl
          refine seq_take (v := ?_) (a' := ?_) (some 21) rfl rfl (by rfl) ?_ ?_ ?_
          rotate_left; rotate_left
          · intro w' hS; go_simp; with_reducible rfl
          · simp only [Act.put, List.setIfInBounds_toArray, List.set_cons_zero, List.set_cons_succ]; rfl
          refine seq_take (v := ?_) (a' := ?_) (some 22) rfl rfl (by rfl) ?_ ?_ ?_
          rotate_left; rotate_left
          · intro w' hS; go_simp; with_reducible rfl
          · simp only [Act.put, List.setIfInBounds_toArray, List.set_cons_zero, List.set_cons_succ]; rfl
          refine seq_take (v := ?_) (a' := ?_) (some 23) rfl rfl (by rfl) ?_ ?_ ?_
          rotate_left; rotate_left
          · intro w' hS; go_simp; with_reducible rfl
          · simp only [Act.put, List.setIfInBounds_toArray, List.set_cons_zero, List.set_cons_succ]; rfl
          refine seq_take (v := ?_) (a' := ?_) (some 24) rfl rfl (by rfl) ?_ ?_ ?_
          rotate_left; rotate_left
          · intro w' hS; have p1 := cb hS q1; have p2 := cb hS q2; go_simp; with_reducible rfl
          · simp only [Act.put, List.setIfInBounds_toArray, List.set_cons_zero, List.set_cons_succ]; rfl
          refine seq_take (v := ?_) (a' := ?_) (some 25) rfl rfl (by rfl) ?_ ?_ ?_
          rotate_left; rotate_left
          · intro w' hS; go_simp; with_reducible rfl
          · simp only [Act.put, List.setIfInBounds_toArray, List.set_cons_zero, List.set_cons_succ]; rfl
          refine seq_done ?_
          go_wp2_with fail
          go_roundw
          case rel => exact ⟨k + 1, by simp, by omega, Lib.hid (by rw [HX.out, HY.out, HT.out]), bl_next HB0.out hB⟩
          case measure => simp [intOf]; omega
        · have hbf := beqF hxy
          have hbn := neF hxy
          have HXY := Lib.hid hxy
          clear hxy
          have hB := hB.drew
          refine region_seq (fun w' => Below V.heap.size V w') [(0, true), (1, true), (2, true), (3, true), (4, true), (5, true), (6, true), (7, true), (8, true)] (by kernel_rfl) (by kernel_rfl) (fun _ _ _ _ h => h) hB ?_
          try generalize World.drew _ = wS at hB ⊢
          refine seq_take (v := ?_) (a' := ?_) (some 17) rfl rfl (by rfl) ?_ ?_ ?_
          rotate_left; rotate_left
          · intro w' hS; go_simp; with_reducible rfl
          · simp only [Act.put, List.setIfInBounds_toArray, List.set_cons_zero, List.set_cons_succ]; rfl
          refine seq_take (v := ?_) (a' := ?_) (some 18) rfl rfl (by rfl) ?_ ?_ ?_
          rotate_left; rotate_left
          · intro w' hS; go_simp; with_reducible rfl
          · simp only [Act.put, List.setIfInBounds_toArray, List.set_cons_zero, List.set_cons_succ]; rfl
          refine seq_take (v := ?_) (a' := ?_) (some 19) rfl rfl (by rfl) ?_ ?_ ?_
          rotate_left; rotate_left
          · intro w' hS; go_simp; with_reducible rfl
          · simp only [Act.put, List.setIfInBounds_toArray, List.set_cons_zero, List.set_cons_succ]; rfl
          refine seq_take (v := ?_) (a' := ?_) (some 20) rfl rfl (by rfl) ?_ ?_ ?_
          rotate_left; rotate_left
          · intro w' hS; have p1 := cb hS q1; have p2 := cb hS q2; go_simp; with_reducible rfl
          · simp only [Act.put, List.setIfInBounds_toArray, List.set_cons_zero, List.set_cons_succ]; rfl
          refine seq_take (v := ?_) (a' := ?_) (some 21) rfl rfl (by rfl) ?_ ?_ ?_
          rotate_left; rotate_left
          · intro w' hS; go_simp; with_reducible rfl
          · simp only [Act.put, List.setIfInBounds_toArray, List.set_cons_zero, List.set_cons_succ]; rfl
          refine seq_take (v := ?_) (a' := ?_) (some 22) rfl rfl (by rfl) ?_ ?_ ?_
          rotate_left; rotate_left
          · intro w' hS; go_simp; with_reducible rfl
          · simp only [Act.put, List.setIfInBounds_toArray, List.set_cons_zero, List.set_cons_succ]; rfl
          refine seq_take (v := ?_) (a' := ?_) (some 23) rfl rfl (by rfl) ?_ ?_ ?_
          rotate_left; rotate_left
          · intro w' hS; go_simp; with_reducible rfl
          · simp only [Act.put, List.setIfInBounds_toArray, List.set_cons_zero, List.set_cons_succ]; rfl
          refine seq_take (v := ?_) (a' := ?_) (some 24) rfl rfl (by rfl) ?_ ?_ ?_
          rotate_left; rotate_left
          · intro w' hS; have p1 := cb hS q1; have p2 := cb hS q2; go_simp; with_reducible rfl
          · simp only [Act.put, List.setIfInBounds_toArray, List.set_cons_zero, List.set_cons_succ]; rfl
          refine seq_take (v := ?_) (a' := ?_) (some 25) rfl rfl (by rfl) ?_ ?_ ?_
          rotate_left; rotate_left
          · intro w' hS; go_simp; with_reducible rfl
          · simp only [Act.put, List.setIfInBounds_toArray, List.set_cons_zero, List.set_cons_succ]; rfl
          refine seq_done ?_
          go_wp2_with fail
          go_ret
          exact ⟨ret_bool (by rw [decide_eq_false (HNE.out HXY.out)]), bl_next HB0.out hB⟩
      · obtain rfl : k = m.length := by omega
        go_wp2
        go_ret
        exact ⟨ret_bool (by rw [decide_eq_true]; have := HT.out; rw [List.take_length, ← HL.out, List.take_length] at this; exact this), hB⟩
  · have hlm : ¬ (l.length = m.length) := hlen
    have HNE := Lib.hid (show l ≠ m from fun e => hlen (by rw [e]))
    clear hlen
    go_enter Try.func16, Try.ntmps16
    go_wp2
    go_ret
    exact ⟨ret_bool (by rw [decide_eq_false HNE.out]), hB⟩
def inTo (l : List ByteArray) (s : ByteArray) (k : Nat) : Bool := inL (l.take k) s
theorem inTo_succ {l : List ByteArray} {s : ByteArray} {k : Nat} (h : k < l.length) : inTo l s (k + 1) = (inTo l s k || decide (l[k]'h = s)) := by
  unfold inTo inL; rw [List.take_succ_eq_append_getElem h, List.any_append]; simp
theorem inTo_mono {l : List ByteArray} {s : ByteArray} {k : Nat} (h : inTo l s k = true) : inL l s = true := inL_iff.2 (List.mem_of_mem_take (inL_iff.1 h))
set_option maxRecDepth 100000 in
set_option maxHeartbeats 8000000 in
theorem in_calls (w : World) {u : Value} {l : List ByteArray} (hu : StrS w u l) (s : ByteArray) (hl : l.length ≤ 1000000) :
    Calls Try.prog 29 #[u, .string s] w fun e w' => e = .returned (.bool (inL l s)) ∧ Below w.heap.size w w' := by
  have hB := Below.refl w.heap.size w
  have HU := Lib.hid hu
  obtain ⟨au, cu, rfl⟩ := hu.form
  clear hu
  go_enter Try.func29, Try.ntmps29
  go_wp2
  go_loopw [5] (fun i wr => ∃ k : Nat, i = .int .i64 k ∧ k ≤ l.length ∧ Hid (inTo l s k = false) ∧ Below w.heap.size w wr) (fun i _ => l.length - (intOf i).toNat)
  case atStart => exact ⟨0, rfl, Nat.zero_le _, Lib.hid rfl, hB⟩
  case round =>
    obtain ⟨k, rfl, hk, HT, hB⟩ := hrel
    by_cases hkl : k < l.length
    · have hkI : (k : Int) < l.length := by omega
      obtain ⟨b1, o1, d1, he1, q1⟩ := HU.out.at' hkl
      cases he1
      have q1 := cb hB q1
      have HX := Lib.hid (inTo_succ (s := s) hkl)
      have HM := Lib.hid (show l[k]'hkl = s → inL l s = true from fun h => inL_iff.2 (h ▸ List.getElem_mem hkl))
      generalize l[k]'hkl = x at q1 HX HM
      by_cases hxy : x = s
      · have hbf : (x.toList == s.toList) = true := by rw [beq_str]; simpa using hxy
        have hbn : x.toList = s.toList := by rw [hxy]
        have HXY := Lib.hid hxy
        clear hxy
        go_wp2
        go_ret
        exact ⟨ret_bool (HM.out HXY.out).symm, hB⟩
      · have hbf := beqF hxy
        have hbn := neF hxy
        have HXY := Lib.hid hxy
        clear hxy
        go_wp2
        go_roundw
        case rel => exact ⟨k + 1, by simp, by omega, Lib.hid (by rw [HX.out, HT.out, decide_eq_false HXY.out]; rfl), hB⟩
        case measure => simp [intOf]; omega
    · obtain rfl : k = l.length := by omega
      go_wp2
      go_ret
      exact ⟨ret_bool (by have := HT.out; unfold inTo at this; rw [List.take_length] at this; exact this.symm), hB⟩
end Go.Proofs.Ythaipgbjnigkhaa

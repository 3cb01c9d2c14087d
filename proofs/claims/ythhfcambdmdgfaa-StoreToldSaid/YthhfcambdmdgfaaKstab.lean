import Derived.Test.YthhfcambdmdgfaaKstaa
import Derived.Test.YthhfcambdmdgfaaProg
namespace Go.Proofs.Ythhfcambdmdgfaa
open Go.RowKit Go.Maps
set_option linter.unusedVariables false
set_option linter.unusedSimpArgs false
abbrev Vec := AM ByteArray Int
def risB : List ByteArray → Bool
  | a :: b :: r => ltB a b && risB (b :: r)
  | _ => true
theorem risB_iff : ∀ (l : List ByteArray), risB l = true ↔ l.Pairwise (fun a b => ltB a b = true)
  | [] => ⟨fun _ => List.Pairwise.nil, fun _ => rfl⟩
  | [a] => ⟨fun _ => List.pairwise_singleton _ _, fun _ => rfl⟩
  | a :: b :: r => by
    have ih := risB_iff (b :: r)
    unfold risB
    rw [Bool.and_eq_true, ih, List.pairwise_cons (a := a)]
    constructor
    · rintro ⟨h1, h2⟩
      refine ⟨fun x hx => ?_, h2⟩
      rcases List.mem_cons.1 hx with rfl | hx
      · exact h1
      · exact ltB_trans h1 ((List.pairwise_cons.1 h2).1 x hx)
    · rintro ⟨h1, h2⟩
      exact ⟨h1 b List.mem_cons_self, h2⟩
/-- Rising so far, and one more. -/
theorem risB_snoc : ∀ (l : List ByteArray) (a b : ByteArray), risB (l ++ [a] ++ [b]) = (risB (l ++ [a]) && ltB a b)
  | [], a, b => by simp [risB]
  | [x], a, b => by simp [risB, Bool.and_assoc]
  | x :: y :: r, a, b => by
    have ih := risB_snoc (y :: r) a b
    simp only [List.cons_append, risB] at ih ⊢
    rw [ih, Bool.and_assoc]
theorem ris_take (v : Vec) {k : Nat} (h : k + 1 < v.length) : risB (keysA (v.take (k + 2))) = (risB (keysA (v.take (k + 1))) && ltB (v[k]'(by omega)).1 (v[k + 1]'h).1) := by
  have e1 : v.take (k + 1) = v.take k ++ [v[k]'(by omega)] := List.take_succ_eq_append_getElem (by omega)
  have e2 : v.take (k + 2) = v.take k ++ [v[k]'(by omega)] ++ [v[k + 1]'h] := by rw [← e1]; exact List.take_succ_eq_append_getElem h
  rw [e1, e2]
  have := risB_snoc (keysA (v.take k)) (v[k]'(by omega)).1 (v[k + 1]'h).1
  simp only [keysA, List.map_append, List.map_cons, List.map_nil] at this ⊢
  exact this
abbrev Res := List (ByteArray × Int)
def encR (p : ByteArray × Int) : List Value := [.string p.1, .int .i64 p.2]
def resC (l : Res) : List Value := l.flatMap encR
theorem resC_len (l : Res) : (resC l).length = l.length * 2 := by
  induction l with
  | nil => rfl
  | cons p r ih => simp only [resC, List.flatMap_cons, List.length_append, List.length_cons] at ih ⊢; rw [ih]; simp [encR]; omega
theorem resC_get : ∀ (l : Res) (k : Nat) (hk : k < l.length) (j : Nat), j < 2 → (resC l)[k * 2 + j]? = (encR (l[k]'hk))[j]?
  | p :: r, 0, _, j, hj => by
    show (encR p ++ resC r)[0 * 2 + j]? = (encR p)[j]?
    rw [Nat.zero_mul, Nat.zero_add, List.getElem?_append_left (by simp [encR]; exact hj)]
  | p :: r, k + 1, hk, j, hj => by
    show (encR p ++ resC r)[(k + 1) * 2 + j]? = _
    have hl : (encR p).length = 2 := rfl
    rw [List.getElem?_append_right (by rw [hl]; omega), hl, show (k + 1) * 2 + j - 2 = k * 2 + j by omega]
    exact resC_get r k (by simpa using hk) j hj
theorem resC_one (l : Res) : ∀ u ∈ resC l, u.oneCell' = true := by
  intro u hu; unfold resC at hu; obtain ⟨p, _, h⟩ := List.mem_flatMap.1 hu
  simp only [encR, List.mem_cons, List.not_mem_nil, or_false] at h
  rcases h with rfl | rfl <;> rfl
def in64 (n : Int) : Prop := -9223372036854775808 ≤ n ∧ n ≤ 9223372036854775807
def ResS (w : World) (x : Value) (l : Res) : Prop := SliS w x 2 l.length (resC l) ∧ ∀ p ∈ l, in64 p.2
section
variable {w w' : World} {x : Value} {l : Res}
theorem ResS.form (h : ResS w x l) : ∃ A c, x = .slice A l.length c := h.1.form
theorem ResS.below (h : ResS w x l) (hb : Below w.heap.size w w') : ResS w' x l := ⟨h.1.below hb, h.2⟩
theorem ResS.at' (h : ResS w x l) {k : Nat} (hk : k < l.length) : ∃ b off c, x = .slice (some ⟨b, off, none⟩) l.length c ∧ w.cell? ⟨b, off + k * 2, none⟩ = some (.string (l[k]'hk).1) ∧ w.cell? ⟨b, off + k * 2 + 1, none⟩ = some (.int .i64 (l[k]'hk).2) ∧ in64 (l[k]'hk).2 := by
  obtain ⟨b, off, c, hx, _, hc⟩ := h.1.at' hk
  refine ⟨b, off, c, hx, hc 0 (by decide) _ (by rw [resC_get l k hk 0 (by decide)]; rfl), hc 1 (by decide) _ (by rw [resC_get l k hk 1 (by decide)]; rfl), h.2 _ (List.getElem_mem hk)⟩
end
theorem res_ne {p r : ByteArray × Int} (h : ¬ p = r) : (decide (p.1 = r.1) && decide (p.2 = r.2)) = false := by
  rw [Bool.and_eq_false_iff]
  by_cases h1 : p.1 = r.1
  · have h2 : p.2 ≠ r.2 := fun e => h (Prod.ext h1 e)
    simp [h2]
  · simp [h1]
theorem resIf (s s' : ByteArray) (n n' : Int) (w : World) {q : Bool} (hq : (decide (s = s') && decide (n = n')) = q) : (if s.toList = s'.toList then if n = n' then Result.ok (Next.value (Value.bool false)) w else Result.ok (Next.value (Value.bool true)) w else Result.ok (Next.value (Value.bool true)) w)
    = .ok (.value (.bool !q)) w := by
  rw [← hq]
  simp only [ba_eq]
  by_cases h1 : s = s' <;> by_cases h2 : n = n' <;> simp [h1, h2]
set_option maxRecDepth 100000 in
set_option maxHeartbeats 8000000 in
theorem rres_calls (w : World) {u v : Value} {l m : Res} (hu : ResS w u l) (hv : ResS w v m) (hl : l.length ≤ 1000000) (hm : m.length ≤ 1000000) :
    Calls Try.prog 88 #[u, v] w fun e w' => e = .returned (.bool (decide (l = m))) ∧ Below w.heap.size w w' := by
  have hB := Below.refl w.heap.size w
  have HU := Lib.hid hu
  have HV := Lib.hid hv
  obtain ⟨au, cu, rfl⟩ := hu.form
  obtain ⟨av, cv, rfl⟩ := hv.form
  clear hu hv
  by_cases hlen : l.length = m.length
  · have HL := Lib.hid hlen
    rw [hlen] at hl HU ⊢
    have HLM := Lib.hid (show ∀ j (h1 : j < m.length), j < l.length from fun j h => by omega)
    clear hlen
    go_enter Try.func88, Try.ntmps88
    go_wp2_with fail
    go_loopw [5] (fun i wr => ∃ k : Nat, i = .int .i64 k ∧ k ≤ m.length ∧ Hid (l.take k = m.take k) ∧ Below w.heap.size w wr) (fun i _ => m.length - (intOf i).toNat)
    case atStart => exact ⟨0, rfl, Nat.zero_le _, Lib.hid rfl, hB⟩
    case round =>
      clear hB
      obtain ⟨k, rfl, hk, HT, hB⟩ := hrel
      by_cases hkl : k < m.length
      · have hkI : (k : Int) < m.length := by omega
        have hk2 := HLM.out k hkl
        obtain ⟨b1, o1, d1, he1, q0, q1, hq⟩ := HU.out.at' hk2
        obtain ⟨b2, o2, d2, he2, r0, r1, hr⟩ := HV.out.at' hkl
        rw [HL.out] at he1
        cases he1
        cases he2
        clear hq hr
        have q0 := cb hB q0; have r0 := cb hB r0
        have q1 := cb hB q1; have r1 := cb hB r1
        have HX := Lib.hid (List.take_succ_eq_append_getElem hk2)
        have HY := Lib.hid (List.take_succ_eq_append_getElem hkl)
        have HNE := Lib.hid (show l[k]'hk2 ≠ m[k]'hkl → l ≠ m from fun h e => h (by subst e; rfl))
        obtain ⟨p, hp⟩ : ∃ p, l[k]'hk2 = p := ⟨_, rfl⟩
        obtain ⟨r, hr⟩ : ∃ r, m[k]'hkl = r := ⟨_, rfl⟩
        rw [hp] at q0 q1 HX HNE
        rw [hr] at r0 r1 HY HNE
        clear hp hr
        obtain ⟨V, rfl⟩ : ∃ V : World, V = wr := ⟨_, rfl⟩
        have HB0 := Lib.hid hB
        clear hB
        have hB := Below.refl V.heap.size V
        go_upto_region 6 with fail
        by_cases hpr : p = r
        · have HZ : Hid ((decide (p.1 = r.1) && decide (p.2 = r.2)) = true) := Lib.hid (by rw [hpr]; simp)
          have HPR := Lib.hid hpr
          clear hpr
          have hB := hB.drew
          refine region_seq (fun w' => Below V.heap.size V w') [(0, true), (1, true), (2, true), (3, true), (4, true), (5, true), (6, true), (7, true), (8, true)] (by kernel_rfl) (by kernel_rfl) (fun _ _ _ _ h => h) hB ?_
          try generalize World.drew _ = wS at hB ⊢
          refine seq_take (v := ?_) (a' := ?_) (some 17) rfl rfl (by rfl) ?_ ?_ ?_
          rotate_left; rotate_left
          · intro w' hS; go_simp; with_reducible rfl
          · simp only [Act.put, List.setIfInBounds_toArray, List.set_cons_zero, List.set_cons_succ]; rfl
          refine seq_take (v := ?_) (a' := ?_) (some 18) rfl rfl (by rfl) ?_ ?_ ?_
          rotate_left; rotate_left
          · intro w' hS; go_simp; with_reducible rfl
          · simp only [Act.put, List.setIfInBounds_toArray, List.set_cons_zero, List.set_cons_succ]; rfl
          refine seq_take (v := ?_) (a' := ?_) (some 19) rfl rfl (by rfl) ?_ ?_ ?_
          rotate_left; rotate_left
          · intro w' hS; go_simp; with_reducible rfl
          · simp only [Act.put, List.setIfInBounds_toArray, List.set_cons_zero, List.set_cons_succ]; rfl
          refine seq_take (v := ?_) (a' := ?_) (some 20) rfl rfl (by rfl) ?_ ?_ ?_
          rotate_left; rotate_left
          · intro w' hS; have p0 := cb hS q0; have s0 := cb hS r0; have p1 := cb hS q1; have s1 := cb hS r1; go_simp; with_reducible rfl
          · simp only [Act.put, List.setIfInBounds_toArray, List.set_cons_zero, List.set_cons_succ]; rfl
          refine seq_take (v := ?_) (a' := ?_) (some 21) rfl rfl (by rfl) ?_ ?_ ?_
          rotate_left; rotate_left
          · intro w' hS; go_simp; with_reducible rfl
          · simp only [Act.put, List.setIfInBounds_toArray, List.set_cons_zero, List.set_cons_succ]; rfl
          refine seq_take (v := ?_) (a' := ?_) (some 22) rfl rfl (by rfl) ?_ ?_ ?_
          rotate_left; rotate_left
          · intro w' hS; go_simp; with_reducible rfl
          · simp only [Act.put, List.setIfInBounds_toArray, List.set_cons_zero, List.set_cons_succ]; rfl
          refine seq_take (v := ?_) (a' := ?_) (some 23) rfl rfl (by rfl) ?_ ?_ ?_
          rotate_left; rotate_left
          · intro w' hS; go_simp; with_reducible rfl
          · simp only [Act.put, List.setIfInBounds_toArray, List.set_cons_zero, List.set_cons_succ]; rfl
          refine seq_take (v := ?_) (a' := ?_) (some 24) rfl rfl (by rfl) ?_ ?_ ?_
          rotate_left; rotate_left
          · intro w' hS; have p0 := cb hS q0; have s0 := cb hS r0; have p1 := cb hS q1; have s1 := cb hS r1; go_simp; with_reducible rfl
          · simp only [Act.put, List.setIfInBounds_toArray, List.set_cons_zero, List.set_cons_succ]; rfl
          refine seq_take (v := ?_) (a' := ?_) (some 25) rfl rfl (by rfl) ?_ ?_ ?_
          rotate_left; rotate_left
          · intro w' hS; (first | (go_simp; with_reducible rfl) | (go_simp; exact resIf _ _ _ _ _ HZ.out))
          · simp only [Act.put, List.setIfInBounds_toArray, List.set_cons_zero, List.set_cons_succ]; rfl
          refine seq_done ?_
          go_wp2_with fail
          go_roundw
          case rel => exact ⟨k + 1, by simp, by omega, Lib.hid (by rw [HX.out, HY.out, HT.out, HPR.out]), bl_next HB0.out hB⟩
          case measure => simp [intOf]; omega
        · have HZ : Hid ((decide (p.1 = r.1) && decide (p.2 = r.2)) = false) := Lib.hid (res_ne hpr)
          have HPR := Lib.hid (HNE.out hpr)
          clear hpr
          have hB := hB.drew
          refine region_seq (fun w' => Below V.heap.size V w') [(0, true), (1, true), (2, true), (3, true), (4, true), (5, true), (6, true), (7, true), (8, true)] (by kernel_rfl) (by kernel_rfl) (fun _ _ _ _ h => h) hB ?_
          try generalize World.drew _ = wS at hB ⊢
          refine seq_take (v := ?_) (a' := ?_) (some 17) rfl rfl (by rfl) ?_ ?_ ?_
          rotate_left; rotate_left
          · intro w' hS; go_simp; with_reducible rfl
          · simp only [Act.put, List.setIfInBounds_toArray, List.set_cons_zero, List.set_cons_succ]; rfl
          refine seq_take (v := ?_) (a' := ?_) (some 18) rfl rfl (by rfl) ?_ ?_ ?_
          rotate_left; rotate_left
          · intro w' hS; go_simp; with_reducible rfl
          · simp only [Act.put, List.setIfInBounds_toArray, List.set_cons_zero, List.set_cons_succ]; rfl
          refine seq_take (v := ?_) (a' := ?_) (some 19) rfl rfl (by rfl) ?_ ?_ ?_
          rotate_left; rotate_left
          · intro w' hS; go_simp; with_reducible rfl
          · simp only [Act.put, List.setIfInBounds_toArray, List.set_cons_zero, List.set_cons_succ]; rfl
          refine seq_take (v := ?_) (a' := ?_) (some 20) rfl rfl (by rfl) ?_ ?_ ?_
          rotate_left; rotate_left
          · intro w' hS; have p0 := cb hS q0; have s0 := cb hS r0; have p1 := cb hS q1; have s1 := cb hS r1; go_simp; with_reducible rfl
          · simp only [Act.put, List.setIfInBounds_toArray, List.set_cons_zero, List.set_cons_succ]; rfl
          refine seq_take (v := ?_) (a' := ?_) (some 21) rfl rfl (by rfl) ?_ ?_ ?_
          rotate_left; rotate_left
          · intro w' hS; go_simp; with_reducible rfl
          · simp only [Act.put, List.setIfInBounds_toArray, List.set_cons_zero, List.set_cons_succ]; rfl
          refine seq_take (v := ?_) (a' := ?_) (some 22) rfl rfl (by rfl) ?_ ?_ ?_
          rotate_left; rotate_left
          · intro w' hS; go_simp; with_reducible rfl
          · simp only [Act.put, List.setIfInBounds_toArray, List.set_cons_zero, List.set_cons_succ]; rfl
          refine seq_take (v := ?_) (a' := ?_) (some 23) rfl rfl (by rfl) ?_ ?_ ?_
          rotate_left; rotate_left
          · intro w' hS; go_simp; with_reducible rfl
          · simp only [Act.put, List.setIfInBounds_toArray, List.set_cons_zero, List.set_cons_succ]; rfl
          refine seq_take (v := ?_) (a' := ?_) (some 24) rfl rfl (by rfl) ?_ ?_ ?_
          rotate_left; rotate_left
          · intro w' hS; have p0 := cb hS q0; have s0 := cb hS r0; have p1 := cb hS q1; have s1 := cb hS r1; go_simp; with_reducible rfl
          · simp only [Act.put, List.setIfInBounds_toArray, List.set_cons_zero, List.set_cons_succ]; rfl
          refine seq_take (v := ?_) (a' := ?_) (some 25) rfl rfl (by rfl) ?_ ?_ ?_
          rotate_left; rotate_left
          · intro w' hS; (first | (go_simp; with_reducible rfl) | (go_simp; exact resIf _ _ _ _ _ HZ.out))
          · simp only [Act.put, List.setIfInBounds_toArray, List.set_cons_zero, List.set_cons_succ]; rfl
          refine seq_done ?_
          go_wp2_with fail
          go_ret
          exact ⟨ret_bool (by rw [decide_eq_false HPR.out]), bl_next HB0.out hB⟩
      · obtain rfl : k = m.length := by omega
        go_wp2_with fail
        go_ret
        exact ⟨ret_bool (by rw [decide_eq_true]; have := HT.out; rw [List.take_length, ← HL.out, List.take_length] at this; exact this), hB⟩
  · have hlm : ¬ (l.length = m.length) := hlen
    have HNE := Lib.hid (show l ≠ m from fun e => hlen (by rw [e]))
    clear hlen
    go_enter Try.func88, Try.ntmps88
    go_wp2_with fail
    go_ret
    exact ⟨ret_bool (by rw [decide_eq_false HNE.out]), hB⟩
set_option maxRecDepth 100000 in
set_option maxHeartbeats 8000000 in
theorem req_calls (w : World) {u v : Value} {l m : Res} (hu : ResS w u l) (hv : ResS w v m) (hl : l.length ≤ 1000000) (hm : m.length ≤ 1000000) :
    Calls Try.prog 106 #[u, v] w fun e w' => e = .returned (.bool (decide (l = m))) ∧ Below w.heap.size w w' := by
  have hB := Below.refl w.heap.size w
  have HU := Lib.hid hu
  have HV := Lib.hid hv
  obtain ⟨au, cu, rfl⟩ := hu.form
  obtain ⟨av, cv, rfl⟩ := hv.form
  clear hu hv
  by_cases hlen : l.length = m.length
  · have HL := Lib.hid hlen
    rw [hlen] at hl HU ⊢
    have HLM := Lib.hid (show ∀ j (h1 : j < m.length), j < l.length from fun j h => by omega)
    clear hlen
    go_enter Try.func106, Try.ntmps106
    go_wp2_with fail
    go_loopw [13] (fun i wr => ∃ k : Nat, i = .int .i64 k ∧ k ≤ m.length ∧ Hid (l.take k = m.take k) ∧ Below w.heap.size w wr) (fun i _ => m.length - (intOf i).toNat)
    case atStart => exact ⟨0, rfl, Nat.zero_le _, Lib.hid rfl, hB⟩
    case round =>
      clear hB
      obtain ⟨k, rfl, hk, HT, hB⟩ := hrel
      by_cases hkl : k < m.length
      · have hkI : (k : Int) < m.length := by omega
        have hk2 := HLM.out k hkl
        obtain ⟨b1, o1, d1, he1, q0, q1, hq⟩ := HU.out.at' hk2
        obtain ⟨b2, o2, d2, he2, r0, r1, hr⟩ := HV.out.at' hkl
        rw [HL.out] at he1
        cases he1
        cases he2
        clear hq hr
        have q0 := cb hB q0; have r0 := cb hB r0
        have q1 := cb hB q1; have r1 := cb hB r1
        have HX := Lib.hid (List.take_succ_eq_append_getElem hk2)
        have HY := Lib.hid (List.take_succ_eq_append_getElem hkl)
        have HNE := Lib.hid (show l[k]'hk2 ≠ m[k]'hkl → l ≠ m from fun h e => h (by subst e; rfl))
        obtain ⟨p, hp⟩ : ∃ p, l[k]'hk2 = p := ⟨_, rfl⟩
        obtain ⟨r, hr⟩ : ∃ r, m[k]'hkl = r := ⟨_, rfl⟩
        rw [hp] at q0 q1 HX HNE
        rw [hr] at r0 r1 HY HNE
        clear hp hr
        obtain ⟨V, rfl⟩ : ∃ V : World, V = wr := ⟨_, rfl⟩
        have HB0 := Lib.hid hB
        clear hB
        have hB := Below.refl V.heap.size V
        go_upto_region 6 with fail
        by_cases hpr : p = r
        · have HZ : Hid ((decide (p.1 = r.1) && decide (p.2 = r.2)) = true) := Lib.hid (by rw [hpr]; simp)
          have HPR := Lib.hid hpr
          clear hpr
          have hB := hB.drew
          refine region_seq (fun w' => Below V.heap.size V w') [(0, true), (1, true), (2, true), (3, true), (4, true), (5, true), (6, true), (7, true), (8, true)] (by kernel_rfl) (by kernel_rfl) (fun _ _ _ _ h => h) hB ?_
          try generalize World.drew _ = wS at hB ⊢
          refine seq_take (v := ?_) (a' := ?_) (some 16) rfl rfl (by rfl) ?_ ?_ ?_
          rotate_left; rotate_left
          · intro w' hS; go_simp; with_reducible rfl
          · simp only [Act.put, List.setIfInBounds_toArray, List.set_cons_zero, List.set_cons_succ]; rfl
          refine seq_take (v := ?_) (a' := ?_) (some 17) rfl rfl (by rfl) ?_ ?_ ?_
          rotate_left; rotate_left
          · intro w' hS; go_simp; with_reducible rfl
          · simp only [Act.put, List.setIfInBounds_toArray, List.set_cons_zero, List.set_cons_succ]; rfl
          refine seq_take (v := ?_) (a' := ?_) (some 18) rfl rfl (by rfl) ?_ ?_ ?_
          rotate_left; rotate_left
          · intro w' hS; go_simp; with_reducible rfl
          · simp only [Act.put, List.setIfInBounds_toArray, List.set_cons_zero, List.set_cons_succ]; rfl
          refine seq_take (v := ?_) (a' := ?_) (some 19) rfl rfl (by rfl) ?_ ?_ ?_
          rotate_left; rotate_left
          · intro w' hS; have p0 := cb hS q0; have s0 := cb hS r0; have p1 := cb hS q1; have s1 := cb hS r1; go_simp; with_reducible rfl
          · simp only [Act.put, List.setIfInBounds_toArray, List.set_cons_zero, List.set_cons_succ]; rfl
          refine seq_take (v := ?_) (a' := ?_) (some 20) rfl rfl (by rfl) ?_ ?_ ?_
          rotate_left; rotate_left
          · intro w' hS; go_simp; with_reducible rfl
          · simp only [Act.put, List.setIfInBounds_toArray, List.set_cons_zero, List.set_cons_succ]; rfl
          refine seq_take (v := ?_) (a' := ?_) (some 21) rfl rfl (by rfl) ?_ ?_ ?_
          rotate_left; rotate_left
          · intro w' hS; go_simp; with_reducible rfl
          · simp only [Act.put, List.setIfInBounds_toArray, List.set_cons_zero, List.set_cons_succ]; rfl
          refine seq_take (v := ?_) (a' := ?_) (some 22) rfl rfl (by rfl) ?_ ?_ ?_
          rotate_left; rotate_left
          · intro w' hS; go_simp; with_reducible rfl
          · simp only [Act.put, List.setIfInBounds_toArray, List.set_cons_zero, List.set_cons_succ]; rfl
          refine seq_take (v := ?_) (a' := ?_) (some 23) rfl rfl (by rfl) ?_ ?_ ?_
          rotate_left; rotate_left
          · intro w' hS; have p0 := cb hS q0; have s0 := cb hS r0; have p1 := cb hS q1; have s1 := cb hS r1; go_simp; with_reducible rfl
          · simp only [Act.put, List.setIfInBounds_toArray, List.set_cons_zero, List.set_cons_succ]; rfl
          refine seq_take (v := ?_) (a' := ?_) (some 24) rfl rfl (by rfl) ?_ ?_ ?_
          rotate_left; rotate_left
          · intro w' hS; (first | (go_simp; with_reducible rfl) | (go_simp; exact resIf _ _ _ _ _ HZ.out))
          · simp only [Act.put, List.setIfInBounds_toArray, List.set_cons_zero, List.set_cons_succ]; rfl
          refine seq_done ?_
          go_wp2_with fail
          go_roundw
          case rel => exact ⟨k + 1, by simp, by omega, Lib.hid (by rw [HX.out, HY.out, HT.out, HPR.out]), bl_next HB0.out hB⟩
          case measure => simp [intOf]; omega
        · have HZ : Hid ((decide (p.1 = r.1) && decide (p.2 = r.2)) = false) := Lib.hid (res_ne hpr)
          have HPR := Lib.hid (HNE.out hpr)
          clear hpr
          have hB := hB.drew
          refine region_seq (fun w' => Below V.heap.size V w') [(0, true), (1, true), (2, true), (3, true), (4, true), (5, true), (6, true), (7, true), (8, true)] (by kernel_rfl) (by kernel_rfl) (fun _ _ _ _ h => h) hB ?_
          try generalize World.drew _ = wS at hB ⊢
          refine seq_take (v := ?_) (a' := ?_) (some 16) rfl rfl (by rfl) ?_ ?_ ?_
          rotate_left; rotate_left
          · intro w' hS; go_simp; with_reducible rfl
          · simp only [Act.put, List.setIfInBounds_toArray, List.set_cons_zero, List.set_cons_succ]; rfl
          refine seq_take (v := ?_) (a' := ?_) (some 17) rfl rfl (by rfl) ?_ ?_ ?_
          rotate_left; rotate_left
          · intro w' hS; go_simp; with_reducible rfl
          · simp only [Act.put, List.setIfInBounds_toArray, List.set_cons_zero, List.set_cons_succ]; rfl
          refine seq_take (v := ?_) (a' := ?_) (some 18) rfl rfl (by rfl) ?_ ?_ ?_
          rotate_left; rotate_left
          · intro w' hS; go_simp; with_reducible rfl
          · simp only [Act.put, List.setIfInBounds_toArray, List.set_cons_zero, List.set_cons_succ]; rfl
          refine seq_take (v := ?_) (a' := ?_) (some 19) rfl rfl (by rfl) ?_ ?_ ?_
          rotate_left; rotate_left
          · intro w' hS; have p0 := cb hS q0; have s0 := cb hS r0; have p1 := cb hS q1; have s1 := cb hS r1; go_simp; with_reducible rfl
          · simp only [Act.put, List.setIfInBounds_toArray, List.set_cons_zero, List.set_cons_succ]; rfl
          refine seq_take (v := ?_) (a' := ?_) (some 20) rfl rfl (by rfl) ?_ ?_ ?_
          rotate_left; rotate_left
          · intro w' hS; go_simp; with_reducible rfl
          · simp only [Act.put, List.setIfInBounds_toArray, List.set_cons_zero, List.set_cons_succ]; rfl
          refine seq_take (v := ?_) (a' := ?_) (some 21) rfl rfl (by rfl) ?_ ?_ ?_
          rotate_left; rotate_left
          · intro w' hS; go_simp; with_reducible rfl
          · simp only [Act.put, List.setIfInBounds_toArray, List.set_cons_zero, List.set_cons_succ]; rfl
          refine seq_take (v := ?_) (a' := ?_) (some 22) rfl rfl (by rfl) ?_ ?_ ?_
          rotate_left; rotate_left
          · intro w' hS; go_simp; with_reducible rfl
          · simp only [Act.put, List.setIfInBounds_toArray, List.set_cons_zero, List.set_cons_succ]; rfl
          refine seq_take (v := ?_) (a' := ?_) (some 23) rfl rfl (by rfl) ?_ ?_ ?_
          rotate_left; rotate_left
          · intro w' hS; have p0 := cb hS q0; have s0 := cb hS r0; have p1 := cb hS q1; have s1 := cb hS r1; go_simp; with_reducible rfl
          · simp only [Act.put, List.setIfInBounds_toArray, List.set_cons_zero, List.set_cons_succ]; rfl
          refine seq_take (v := ?_) (a' := ?_) (some 24) rfl rfl (by rfl) ?_ ?_ ?_
          rotate_left; rotate_left
          · intro w' hS; (first | (go_simp; with_reducible rfl) | (go_simp; exact resIf _ _ _ _ _ HZ.out))
          · simp only [Act.put, List.setIfInBounds_toArray, List.set_cons_zero, List.set_cons_succ]; rfl
          refine seq_done ?_
          go_wp2_with fail
          go_ret
          exact ⟨ret_bool (by rw [decide_eq_false HPR.out]), bl_next HB0.out hB⟩
      · obtain rfl : k = m.length := by omega
        go_wp2_with fail
        go_ret
        exact ⟨ret_bool (by rw [decide_eq_true]; have := HT.out; rw [List.take_length, ← HL.out, List.take_length] at this; exact this), hB⟩
  · have hlm : ¬ (l.length = m.length) := hlen
    have HNE := Lib.hid (show l ≠ m from fun e => hlen (by rw [e]))
    clear hlen
    go_enter Try.func106, Try.ntmps106
    go_wp2_with fail
    go_ret
    exact ⟨ret_bool (by rw [decide_eq_false HNE.out]), hB⟩
end Go.Proofs.Ythhfcambdmdgfaa
namespace Go.Proofs.Ythhfcambdmdgfaa
open Go.RowKit
set_option linter.unusedSimpArgs false
set_option linter.unusedVariables false
def keyText (k s n : ByteArray) : ByteArray := s ++ ⟨#[47]⟩ ++ k ++ ⟨#[47]⟩ ++ n
theorem text_calls (k s n : ByteArray) (w : World) (h : k.size + s.size + n.size ≤ 140737488355328) :
    Calls Try.prog 66 #[.agg #[.string k, .string s, .string n]] w fun e w' => e = .returned (.string (keyText k s n)) ∧ Below w.heap.size w w' := by
  go_enter Try.func66, Try.ntmps66
  go_wp2
  go_ret
  exact ⟨rfl, (Below.refl _ _).alloc (Nat.le_refl _) _⟩
set_option maxHeartbeats 400000 in
theorem less_calls (k s n k' s' n' : ByteArray) (w : World) (h : k.size + s.size + n.size ≤ 140737488355328) (h' : k'.size + s'.size + n'.size ≤ 140737488355328) :
    Calls Try.prog 25 #[.agg #[.string k, .string s, .string n], .agg #[.string k', .string s', .string n']] w fun e w' => e = .returned (.bool (Op.bytesLess (keyText k s n).toList (keyText k' s' n').toList)) ∧ Below w.heap.size w w' := by
  go_enter Try.func25, Try.ntmps25
  go_wp2_with fail
  first | with_reducible refine name_wp ?_ | with_reducible refine name_calls ?_
  intro W hWeq
  have g0 : W.heap[w.heap.size]? = some (.cells #[.string k, .string s, .string n] 24) := by rw [hWeq]; repeat (first | (with_reducible exact blk_newAt _ _ (by simp)) | with_reducible refine blk_drew ?_ | with_reducible refine blk_dN ?_ _ | with_reducible refine blk_old ?_ _)
  have g1 : W.heap[w.heap.size + 1]? = some (.cells #[.string k', .string s', .string n'] 24) := by rw [hWeq]; repeat (first | (with_reducible exact blk_newAt _ _ (by simp)) | with_reducible refine blk_drew ?_ | with_reducible refine blk_dN ?_ _ | with_reducible refine blk_old ?_ _)
  have hw : Below w.heap.size w W := by rw [hWeq]; repeat (first | with_reducible exact Below.refl _ _ | with_reducible refine Below.drew ?_ | with_reducible refine bl_dN ?_ _ | with_reducible refine Below.alloc ?_ (by simp <;> omega) _)
  clear hWeq
  have hz : w.heap.size + 2 ≤ W.heap.size := by have := blk_lt g1; omega
  have c0_0 : W.cell? ⟨w.heap.size, 0, none⟩ = some (.string k) := blk_cell g0 0
  have c0_1 : W.cell? ⟨w.heap.size, 1, none⟩ = some (.string s) := blk_cell g0 1
  have c0_2 : W.cell? ⟨w.heap.size, 2, none⟩ = some (.string n) := blk_cell g0 2
  have f0 : ∀ j, W.frozen? ⟨w.heap.size, j, none⟩ = false := blk_free g0
  have c1_0 : W.cell? ⟨w.heap.size + 1, 0, none⟩ = some (.string k') := blk_cell g1 0
  have c1_1 : W.cell? ⟨w.heap.size + 1, 1, none⟩ = some (.string s') := blk_cell g1 1
  have c1_2 : W.cell? ⟨w.heap.size + 1, 2, none⟩ = some (.string n') := blk_cell g1 2
  have f1 : ∀ j, W.frozen? ⟨w.heap.size + 1, j, none⟩ = false := blk_free g1
  have hB : Below W.heap.size W W := Below.refl _ _
  have G0 := Lib.hid g0; clear g0
  have F0 := Lib.hid f0; clear f0
  have G1 := Lib.hid g1; clear g1
  have F1 := Lib.hid f1; clear f1
  have Hw := Lib.hid hw; clear hw
  have hB := hB.drew
  go_region_held3 (fun w' => w'.cell? ⟨w.heap.size, 0, none⟩ = some (.string k) ∧ w'.cell? ⟨w.heap.size, 1, none⟩ = some (.string s) ∧ w'.cell? ⟨w.heap.size, 2, none⟩ = some (.string n) ∧ w'.cell? ⟨w.heap.size + 1, 0, none⟩ = some (.string k') ∧ w'.cell? ⟨w.heap.size + 1, 1, none⟩ = some (.string s') ∧ w'.cell? ⟨w.heap.size + 1, 2, none⟩ = some (.string n')) (exact ⟨cb hB c0_0, cb hB c0_1, cb hB c0_2, cb hB c1_0, cb hB c1_1, cb hB c1_2⟩) (first | (go_at_call 66; refine (text_calls _ _ _ _ (by omega)).mono ?_; rintro e w' ⟨rfl, hb⟩; have hB := bl_next hB hb; clear hb))
  all_goals go_wp2
  all_goals go_ret
  all_goals exact ⟨rfl, bl_from Hw.out hB⟩
def keyB (k s n : ByteArray) : Bool := rightB s && rightB k && rightB n
theorem key_calls (k s n : ByteArray) (w : World) (hk : k.size ≤ 140737488355328) (hs : s.size ≤ 140737488355328) (hn : n.size ≤ 140737488355328) :
    Calls Try.prog 70 #[.agg #[.string k, .string s, .string n]] w fun e w' => e = .returned (.bool (keyB k s n)) ∧ Below w.heap.size w w' := by
  go_enter Try.func70, Try.ntmps70
  go_wp2_with fail
  first | with_reducible refine name_wp ?_ | with_reducible refine name_calls ?_
  intro W hWeq
  have g0 : W.heap[w.heap.size]? = some (.cells #[.string k, .string s, .string n] 24) := by rw [hWeq]; repeat (first | (with_reducible exact blk_newAt _ _ (by simp)) | with_reducible refine blk_drew ?_ | with_reducible refine blk_dN ?_ _ | with_reducible refine blk_old ?_ _)
  have hw : Below w.heap.size w W := by rw [hWeq]; repeat (first | with_reducible exact Below.refl _ _ | with_reducible refine Below.drew ?_ | with_reducible refine bl_dN ?_ _ | with_reducible refine Below.alloc ?_ (by simp <;> omega) _)
  clear hWeq
  have hz : w.heap.size + 1 ≤ W.heap.size := by have := blk_lt g0; omega
  have c0_0 : W.cell? ⟨w.heap.size, 0, none⟩ = some (.string k) := blk_cell g0 0
  have c0_1 : W.cell? ⟨w.heap.size, 1, none⟩ = some (.string s) := blk_cell g0 1
  have c0_2 : W.cell? ⟨w.heap.size, 2, none⟩ = some (.string n) := blk_cell g0 2
  have f0 : ∀ j, W.frozen? ⟨w.heap.size, j, none⟩ = false := blk_free g0
  have hB : Below W.heap.size W W := Below.refl _ _
  have G0 := Lib.hid g0; clear g0
  have F0 := Lib.hid f0; clear f0
  have Hw := Lib.hid hw; clear hw
  go_wp2_with (go_at_call 89; refine (right_calls _ _ (by assumption)).mono ?_; rintro e w' ⟨rfl, hb⟩; have hB := bl_next (by repeat (first | with_reducible exact hB | refine Below.alloc ?_ (by have := hB.size; simp; omega) _ | refine bl_dN ?_ _ | refine Below.drew ?_ | refine Below.setCell ?_ (by have := hB.size; simp; omega) _)) hb; clear hb; have k0_0 := cb hB c0_0; have k0_1 := cb hB c0_1; have k0_2 := cb hB c0_2; have kz0 : w.heap.size < _ := lt_of_cell k0_0)
  all_goals go_ret
  all_goals exact ⟨ret_bool (by simp [keyB, *]), bl_from Hw.out hB⟩
end Go.Proofs.Ythhfcambdmdgfaa
namespace Go.Proofs.Ythhfcambdmdgfaa
open Go.RowKit Go.Maps
set_option linter.unusedVariables false
set_option linter.unusedSimpArgs false
structure KeyD where
  kind : ByteArray
  space : ByteArray
  name : ByteArray
theorem keyD_ext {a b : KeyD} (h1 : a.kind = b.kind) (h2 : a.space = b.space) (h3 : a.name = b.name) : a = b := by cases a; cases b; simp_all
instance : DecidableEq KeyD := fun a b => if h : a.kind = b.kind ∧ a.space = b.space ∧ a.name = b.name then isTrue (keyD_ext h.1 h.2.1 h.2.2) else isFalse (fun e => h (by rw [e]; exact ⟨rfl, rfl, rfl⟩))
structure ObjD where
  key : KeyD
  ver : Int
  cls : ByteArray
  term : Bool
  best : Bool
  charge : Res
def keySmall (k : KeyD) : Prop := k.kind.size ≤ 1000 ∧ k.space.size ≤ 1000 ∧ k.name.size ≤ 1000
def objSmall (o : ObjD) : Prop := keySmall o.key ∧ o.cls.size ≤ 1000 ∧ o.charge.length ≤ 300 ∧ ∀ p ∈ o.charge, p.1.size ≤ 1000
def objV (o : ObjD) (sl : Value) : Value := .agg #[.string o.key.kind, .string o.key.space, .string o.key.name, .int .i64 o.ver, .string o.cls, .bool o.term, .bool o.best, sl]
def ObjS (w : World) (sl : Value) (o : ObjD) : Prop := ResS w sl o.charge ∧ in64 o.ver
section
variable {w w' : World} {sl : Value} {o : ObjD}
theorem ObjS.below (h : ObjS w sl o) (hb : Below w.heap.size w w') : ObjS w' sl o := ⟨h.1.below hb, h.2⟩
end
def keyOk (k : KeyD) : Bool := keyB k.kind k.space k.name
def resB (p : ByteArray × Int) : Bool := rightB p.1 && decide (0 ≤ p.2)
/-- Resources in line: each right, rising. -/
def chargeB (l : Res) : Bool := l.all resB && risB (keysA l)
def clsB (s : ByteArray) : Bool := decide (s = ⟨#[]⟩) || rightB s
def rightO (o : ObjD) : Bool := keyOk o.key && decide (1 ≤ o.ver) && clsB o.cls && decide (o.charge.length ≤ 16) && chargeB o.charge
theorem chargeB_iff {l : Res} : chargeB l = true ↔ (∀ p ∈ l, rightB p.1 = true ∧ 0 ≤ p.2) ∧ l.Pairwise (fun p q => ltB p.1 q.1 = true) := by
  unfold chargeB
  rw [Bool.and_eq_true, List.all_eq_true, risB_iff]
  unfold keysA
  rw [List.pairwise_map]
  simp only [resB, Bool.and_eq_true, decide_eq_true_eq]
theorem chargeB_take {l : Res} {k : Nat} (h : chargeB (l.take k) = false) : chargeB l = false := by
  cases q : chargeB l with
  | false => rfl
  | true =>
    obtain ⟨h1, h2⟩ := chargeB_iff.1 q
    rw [chargeB_iff.2 ⟨fun p hp => h1 p (List.mem_of_mem_take hp), List.Pairwise.sublist (List.take_sublist k l) h2⟩] at h
    cases h
theorem chargeB_0 {l : Res} (h : 0 < l.length) : chargeB (l.take 1) = resB (l[0]'h) := by
  cases l with
  | nil => cases h
  | cons p r => simp [chargeB, risB, keysA]
theorem chargeB_succ {l : Res} {k : Nat} (h : k + 1 < l.length) : chargeB (l.take (k + 2)) = (chargeB (l.take (k + 1)) && (resB (l[k + 1]'h) && ltB (l[k]'(by omega)).1 (l[k + 1]'h).1)) := by
  unfold chargeB
  rw [ris_take l h]
  have e : l.take (k + 2) = l.take (k + 1) ++ [l[k + 1]'h] := List.take_succ_eq_append_getElem h
  rw [e, List.all_append]
  simp only [List.all_cons, List.all_nil, Bool.and_true]
  cases (l.take (k + 1)).all resB <;> cases resB (l[k + 1]'h) <;> cases risB (keysA (l.take (k + 1))) <;> cases ltB (l[k]'(by omega)).1 (l[k + 1]'h).1 <;> rfl
theorem chargeB_at {l : Res} {k : Nat} (h : k < l.length) (hk : chargeB (l.take k) = true) : chargeB (l.take (k + 1)) = (resB (l[k]'h) && (if h0 : 0 < k then ltB (l[k - 1]'(by omega)).1 (l[k]'h).1 else true)) := by
  cases k with
  | zero => rw [chargeB_0 h]; simp
  | succ j => rw [chargeB_succ h, hk]; simp
theorem empty_list : (⟨#[]⟩ : ByteArray).toList = [] := by rw [Lib.toList_data]
set_option maxRecDepth 100000 in
set_option maxHeartbeats 16000000 in
theorem oright_calls (w : World) {sl : Value} {o : ObjD} (h : ObjS w sl o) (hs : objSmall o) :
    Calls Try.prog 68 #[objV o sl] w fun e w' => e = .returned (.bool (rightO o)) ∧ Below w.heap.size w w' := by
  have hB := Below.refl w.heap.size w
  have H := Lib.hid h.1
  have HS := Lib.hid hs
  obtain ⟨al, cl, rfl⟩ := h.1.form
  obtain ⟨⟨hs1, hs2, hs3⟩, hs4, hs5, hs6⟩ := hs
  have HSZ := Lib.hid hs6
  have hv := h.2
  unfold in64 at hv
  obtain ⟨hv1, hv2⟩ := hv
  clear h hs6
  obtain ⟨l, hl⟩ : ∃ l, o.charge = l := ⟨_, rfl⟩
  have HO := Lib.hid (show rightO o = (keyOk o.key && decide (1 ≤ o.ver) && clsB o.cls && decide (l.length ≤ 16) && chargeB l) by rw [← hl]; rfl)
  unfold objV
  rw [hl] at H HSZ hs5 ⊢
  clear hl
  obtain ⟨⟨kk, ks, kn⟩, ver, cls, term, best, chg⟩ := o
  simp only at HO hs1 hs2 hs3 hs4 hv1 hv2 ⊢
  clear HS
  go_enter Try.func68, Try.ntmps68
  go_upto_region 1 with fail
  first | with_reducible refine name_wp ?_ | with_reducible refine name_calls ?_
  intro W hWeq
  have g0 : W.heap[w.heap.size]? = some (.cells #[.string kk, .string ks, .string kn, .int .i64 ver, .string cls, .bool term, .bool best, .slice al l.length cl] 27) := by rw [hWeq]; repeat (first | (with_reducible exact blk_newAt _ _ (by simp)) | with_reducible refine blk_drew ?_ | with_reducible refine blk_dN ?_ _ | with_reducible refine blk_old ?_ _)
  have hw : Below w.heap.size w W := by rw [hWeq]; repeat (first | with_reducible exact Below.refl _ _ | with_reducible refine Below.drew ?_ | with_reducible refine bl_dN ?_ _ | with_reducible refine Below.alloc ?_ (by simp <;> omega) _)
  clear hWeq
  have hz : w.heap.size + 1 ≤ W.heap.size := by have := blk_lt g0; omega
  have c0_0 : W.cell? ⟨w.heap.size, 0, none⟩ = some (.string kk) := blk_cell g0 0
  have c0_1 : W.cell? ⟨w.heap.size, 1, none⟩ = some (.string ks) := blk_cell g0 1
  have c0_2 : W.cell? ⟨w.heap.size, 2, none⟩ = some (.string kn) := blk_cell g0 2
  have c0_3 : W.cell? ⟨w.heap.size, 3, none⟩ = some (.int .i64 ver) := blk_cell g0 3
  have c0_4 : W.cell? ⟨w.heap.size, 4, none⟩ = some (.string cls) := blk_cell g0 4
  have c0_5 : W.cell? ⟨w.heap.size, 5, none⟩ = some (.bool term) := blk_cell g0 5
  have c0_6 : W.cell? ⟨w.heap.size, 6, none⟩ = some (.bool best) := blk_cell g0 6
  have c0_7 : W.cell? ⟨w.heap.size, 7, none⟩ = some (.slice al l.length cl) := blk_cell g0 7
  have f0 : ∀ j, W.frozen? ⟨w.heap.size, j, none⟩ = false := blk_free g0
  have hB : Below W.heap.size W W := Below.refl _ _
  have G0 := Lib.hid g0; clear g0
  have F0 := Lib.hid f0; clear f0
  have Hw := Lib.hid hw; clear hw
  have HW := Lib.hid (H.out.below Hw.out)
  have hWw := Hw.out.size
  go_wp2_with fail
  clear hB
  go_loopw [8] (fun i wr => ∃ k : Nat, i = .int .i64 k ∧ k ≤ l.length ∧ Hid (chargeB (l.take k) = true) ∧ Hid (Below W.heap.size W wr)) (fun i _ => l.length - (intOf i).toNat)
  case atStart => exact ⟨0, rfl, Nat.zero_le _, Lib.hid rfl, Lib.hid (Below.refl _ _)⟩
  case round =>
    obtain ⟨k, rfl, hk, HR, HBr⟩ := hrel
    have k0_0 := cb HBr.out c0_0; have k0_1 := cb HBr.out c0_1; have k0_2 := cb HBr.out c0_2; have k0_3 := cb HBr.out c0_3; have k0_4 := cb HBr.out c0_4; have k0_5 := cb HBr.out c0_5; have k0_6 := cb HBr.out c0_6; have k0_7 := cb HBr.out c0_7
    by_cases hkl : k < l.length
    · have hkI : (k : Int) < l.length := by omega
      obtain ⟨b, of, c, he, q0, q1, hin⟩ := HW.out.at' hkl
      cases he
      have q0 := cb HBr.out q0; have q1 := cb HBr.out q1
      have hsz := HSZ.out _ (List.getElem_mem hkl)
      have NOT := Lib.hid (show chargeB (l.take (k + 1)) = false → rightO ⟨⟨kk, ks, kn⟩, ver, cls, term, best, chg⟩ = false from fun e => by rw [HO.out, chargeB_take e]; simp)
      have STEP := Lib.hid (chargeB_at hkl HR.out)
      have PREV : Hid (∀ h0 : 0 < k, ∃ s, (l[k - 1]'(by omega)).1 = s ∧ wr.cell? ⟨b, of + (k - 1) * 2, none⟩ = some (.string s)) := Lib.hid fun h0 => by
        obtain ⟨b', o', c', he', q0', _⟩ := HW.out.at' (show k - 1 < l.length by omega)
        cases he'
        exact ⟨_, rfl, cb HBr.out q0'⟩
      clear hin
      obtain ⟨p, hp⟩ : ∃ p, l[k]'hkl = p := ⟨_, rfl⟩
      rw [hp] at q0 q1 hsz STEP
      clear hp
      obtain ⟨V, rfl⟩ : ∃ V : World, V = wr := ⟨_, rfl⟩
      have hVw := HBr.out.size
      go_upto_region 5 with fail
      first | with_reducible refine name_wp ?_ | with_reducible refine name_calls ?_
      intro U hU
      have hw9 : Below V.heap.size V U := by rw [hU]; exact (Below.refl V.heap.size V).alloc (Nat.le_refl _) _
      have d0 : U.cell? ⟨V.heap.size, 0, none⟩ = some (.string p.1) := by rw [hU]; exact blk_cell (blk_new V _) 0
      have d1 : U.cell? ⟨V.heap.size, 1, none⟩ = some (.int .i64 p.2) := by rw [hU]; exact blk_cell (blk_new V _) 1
      clear hU
      have hB := Below.refl U.heap.size U
      have d7 := cb hw9 k0_7
      have Q0 := Lib.hid (cb hw9 q0)
      have HBU := Lib.hid (bl_from HBr.out hw9)
      have HW9 := Lib.hid hw9
      clear k0_0 k0_1 k0_2 k0_3 k0_4 k0_5 k0_6 k0_7 q0 q1 hw9
      by_cases hrt : rightB p.1 = true
      · by_cases hz : p.2 < 0
        · have hzd : decide (p.2 < 0) = true := by simpa using hz
          have HN := Lib.hid (NOT.out (by rw [STEP.out]; unfold resB; rw [show decide (0 ≤ p.2) = false by simpa using hz]; simp))
          have hB := hB.drew
          refine region_seq (fun w' => Below U.heap.size U w') [(0, true), (1, true), (2, false), (3, true), (4, true), (5, true), (6, true), (7, true), (8, true), (9, true), (10, true), (11, true), (12, true), (13, true), (14, true), (15, true), (16, true), (17, true), (18, true), (19, true), (20, true), (21, true), (22, true), (23, true), (24, true)] (by kernel_rfl) (by kernel_rfl) (fun _ _ _ _ h => h) hB ?_
          try generalize World.drew _ = wS at hB ⊢
          refine seq_take (v := ?_) (a' := ?_) (some 16) rfl rfl (by rfl) ?_ ?_ ?_
          rotate_left; rotate_left
          · intro w' hS; go_simp; with_reducible rfl
          · simp only [Act.put, List.setIfInBounds_toArray, List.set_cons_zero, List.set_cons_succ]; rfl
          refine seq_take (v := ?_) (a' := ?_) (some 17) rfl rfl (by rfl) ?_ ?_ ?_
          rotate_left; rotate_left
          · intro w' hS; have p0 := cb hS d0; have p1 := cb hS d1; have p7 := cb hS d7; go_simp; with_reducible rfl
          · simp only [Act.put, List.setIfInBounds_toArray, List.set_cons_zero, List.set_cons_succ]; rfl
          refine seq_call (args := ?_) Try.func89 (by kernel_rfl) rfl (some 18) rfl rfl (by rfl) rfl ?_ ?_
          rotate_left
          · simp only [List.map_toArray, List.map_cons, List.map_nil]; go_simp; rfl
          with_reducible refine (right_calls _ _ (by omega)).mono ?_
          rintro e w' ⟨rfl, hb⟩
          rw [hrt]
          refine ⟨_, rfl, bl_next (by repeat (first | with_reducible exact hB | refine Below.alloc ?_ (by have := hB.size; simp; omega) _ | refine bl_dN ?_ _ | refine Below.drew ?_ | refine Below.setCell ?_ (by have := hB.size; simp; omega) _)) hb, ?_⟩
          have hB := bl_next (by repeat (first | with_reducible exact hB | refine Below.alloc ?_ (by have := hB.size; simp; omega) _ | refine bl_dN ?_ _ | refine Below.drew ?_ | refine Below.setCell ?_ (by have := hB.size; simp; omega) _)) hb; clear hb
          simp only [Act.put, List.setIfInBounds_toArray, List.set_cons_zero, List.set_cons_succ]
          refine seq_take (v := ?_) (a' := ?_) (some 19) rfl rfl (by rfl) ?_ ?_ ?_
          rotate_left; rotate_left
          · intro w' hS; go_simp; with_reducible rfl
          · simp only [Act.put, List.setIfInBounds_toArray, List.set_cons_zero, List.set_cons_succ]; rfl
          refine seq_take (v := ?_) (a' := ?_) (some 20) rfl rfl (by rfl) ?_ ?_ ?_
          rotate_left; rotate_left
          · intro w' hS; go_simp; with_reducible rfl
          · simp only [Act.put, List.setIfInBounds_toArray, List.set_cons_zero, List.set_cons_succ]; rfl
          refine seq_take (v := ?_) (a' := ?_) (some 21) rfl rfl (by rfl) ?_ ?_ ?_
          rotate_left; rotate_left
          · intro w' hS; go_simp; with_reducible rfl
          · simp only [Act.put, List.setIfInBounds_toArray, List.set_cons_zero, List.set_cons_succ]; rfl
          refine seq_take (v := ?_) (a' := ?_) (some 22) rfl rfl (by rfl) ?_ ?_ ?_
          rotate_left; rotate_left
          · intro w' hS; have p0 := cb hS d0; have p1 := cb hS d1; have p7 := cb hS d7; go_simp; with_reducible rfl
          · simp only [Act.put, List.setIfInBounds_toArray, List.set_cons_zero, List.set_cons_succ]; rfl
          refine seq_take (v := ?_) (a' := ?_) (some 23) rfl rfl (by rfl) ?_ ?_ ?_
          rotate_left; rotate_left
          · intro w' hS; go_simp; with_reducible rfl
          · simp only [Act.put, List.setIfInBounds_toArray, List.set_cons_zero, List.set_cons_succ]; rfl
          refine seq_take (v := ?_) (a' := ?_) (some 24) rfl rfl (by rfl) ?_ ?_ ?_
          rotate_left; rotate_left
          · intro w' hS; go_simp; with_reducible rfl
          · simp only [Act.put, List.setIfInBounds_toArray, List.set_cons_zero, List.set_cons_succ]; rfl
          refine seq_take (v := ?_) (a' := ?_) (some 25) rfl rfl (by rfl) ?_ ?_ ?_
          rotate_left; rotate_left
          · intro w' hS; go_simp; with_reducible rfl
          · simp only [Act.put, List.setIfInBounds_toArray, List.set_cons_zero, List.set_cons_succ]; rfl
          refine seq_skip (a' := ?_) (some 26) rfl rfl (by rfl) ?_ ?_
          rotate_left
          · simp only [Act.put, List.setIfInBounds_toArray, List.set_cons_zero, List.set_cons_succ]; rfl
          refine seq_skip (a' := ?_) (some 27) rfl rfl (by rfl) ?_ ?_
          rotate_left
          · simp only [Act.put, List.setIfInBounds_toArray, List.set_cons_zero, List.set_cons_succ]; rfl
          refine seq_skip (a' := ?_) (some 28) rfl rfl (by rfl) ?_ ?_
          rotate_left
          · simp only [Act.put, List.setIfInBounds_toArray, List.set_cons_zero, List.set_cons_succ]; rfl
          refine seq_skip (a' := ?_) (some 29) rfl rfl (by rfl) ?_ ?_
          rotate_left
          · simp only [Act.put, List.setIfInBounds_toArray, List.set_cons_zero, List.set_cons_succ]; rfl
          refine seq_skip (a' := ?_) (some 30) rfl rfl (by rfl) ?_ ?_
          rotate_left
          · simp only [Act.put, List.setIfInBounds_toArray, List.set_cons_zero, List.set_cons_succ]; rfl
          refine seq_skip (a' := ?_) (some 31) rfl rfl (by rfl) ?_ ?_
          rotate_left
          · simp only [Act.put, List.setIfInBounds_toArray, List.set_cons_zero, List.set_cons_succ]; rfl
          refine seq_skip (a' := ?_) (some 32) rfl rfl (by rfl) ?_ ?_
          rotate_left
          · simp only [Act.put, List.setIfInBounds_toArray, List.set_cons_zero, List.set_cons_succ]; rfl
          refine seq_skip (a' := ?_) (some 33) rfl rfl (by rfl) ?_ ?_
          rotate_left
          · simp only [Act.put, List.setIfInBounds_toArray, List.set_cons_zero, List.set_cons_succ]; rfl
          refine seq_skip (a' := ?_) (some 34) rfl rfl (by rfl) ?_ ?_
          rotate_left
          · simp only [Act.put, List.setIfInBounds_toArray, List.set_cons_zero, List.set_cons_succ]; rfl
          refine seq_skip (a' := ?_) (some 35) rfl rfl (by rfl) ?_ ?_
          rotate_left
          · simp only [Act.put, List.setIfInBounds_toArray, List.set_cons_zero, List.set_cons_succ]; rfl
          refine seq_skip (a' := ?_) (some 36) rfl rfl (by rfl) ?_ ?_
          rotate_left
          · simp only [Act.put, List.setIfInBounds_toArray, List.set_cons_zero, List.set_cons_succ]; rfl
          refine seq_skip (a' := ?_) (some 37) rfl rfl (by rfl) ?_ ?_
          rotate_left
          · simp only [Act.put, List.setIfInBounds_toArray, List.set_cons_zero, List.set_cons_succ]; rfl
          refine seq_skip (a' := ?_) (some 38) rfl rfl (by rfl) ?_ ?_
          rotate_left
          · simp only [Act.put, List.setIfInBounds_toArray, List.set_cons_zero, List.set_cons_succ]; rfl
          refine seq_skip (a' := ?_) (some 39) rfl rfl (by rfl) ?_ ?_
          rotate_left
          · simp only [Act.put, List.setIfInBounds_toArray, List.set_cons_zero, List.set_cons_succ]; rfl
          refine seq_take (v := ?_) (a' := ?_) (some 40) rfl rfl (by rfl) ?_ ?_ ?_
          rotate_left; rotate_left
          · intro w' hS; go_simp; with_reducible rfl
          · simp only [Act.put, List.setIfInBounds_toArray, List.set_cons_zero, List.set_cons_succ]; rfl
          refine seq_done ?_
          go_wp2_with fail
          go_ret
          exact ⟨ret_bool HN.out.symm, bl_from Hw.out (bl_next HBU.out hB)⟩
        · have hzI : 0 ≤ p.2 := by omega
          have hzd : decide (p.2 < 0) = false := by simpa using hzI
          have HE := Lib.hid (show resB p = true by unfold resB; rw [hrt]; simpa using hzI)
          by_cases h0 : k = 0
          · subst h0
            have HOK := Lib.hid (show chargeB (l.take 1) = true by have := STEP.out; rw [HE.out] at this; simpa using this)
            have hB := hB.drew
            refine region_seq (fun w' => Below U.heap.size U w') [(0, true), (1, true), (2, false), (3, true), (4, true), (5, true), (6, true), (7, true), (8, true), (9, true), (10, true), (11, true), (12, true), (13, true), (14, true), (15, true), (16, true), (17, true), (18, true), (19, true), (20, true), (21, true), (22, true), (23, true), (24, true)] (by kernel_rfl) (by kernel_rfl) (fun _ _ _ _ h => h) hB ?_
            try generalize World.drew _ = wS at hB ⊢
            refine seq_take (v := ?_) (a' := ?_) (some 16) rfl rfl (by rfl) ?_ ?_ ?_
            rotate_left; rotate_left
            · intro w' hS; go_simp; with_reducible rfl
            · simp only [Act.put, List.setIfInBounds_toArray, List.set_cons_zero, List.set_cons_succ]; rfl
            refine seq_take (v := ?_) (a' := ?_) (some 17) rfl rfl (by rfl) ?_ ?_ ?_
            rotate_left; rotate_left
            · intro w' hS; have p0 := cb hS d0; have p1 := cb hS d1; have p7 := cb hS d7; go_simp; with_reducible rfl
            · simp only [Act.put, List.setIfInBounds_toArray, List.set_cons_zero, List.set_cons_succ]; rfl
            refine seq_call (args := ?_) Try.func89 (by kernel_rfl) rfl (some 18) rfl rfl (by rfl) rfl ?_ ?_
            rotate_left
            · simp only [List.map_toArray, List.map_cons, List.map_nil]; go_simp; rfl
            with_reducible refine (right_calls _ _ (by omega)).mono ?_
            rintro e w' ⟨rfl, hb⟩
            rw [hrt]
            refine ⟨_, rfl, bl_next (by repeat (first | with_reducible exact hB | refine Below.alloc ?_ (by have := hB.size; simp; omega) _ | refine bl_dN ?_ _ | refine Below.drew ?_ | refine Below.setCell ?_ (by have := hB.size; simp; omega) _)) hb, ?_⟩
            have hB := bl_next (by repeat (first | with_reducible exact hB | refine Below.alloc ?_ (by have := hB.size; simp; omega) _ | refine bl_dN ?_ _ | refine Below.drew ?_ | refine Below.setCell ?_ (by have := hB.size; simp; omega) _)) hb; clear hb
            simp only [Act.put, List.setIfInBounds_toArray, List.set_cons_zero, List.set_cons_succ]
            refine seq_take (v := ?_) (a' := ?_) (some 19) rfl rfl (by rfl) ?_ ?_ ?_
            rotate_left; rotate_left
            · intro w' hS; go_simp; with_reducible rfl
            · simp only [Act.put, List.setIfInBounds_toArray, List.set_cons_zero, List.set_cons_succ]; rfl
            refine seq_take (v := ?_) (a' := ?_) (some 20) rfl rfl (by rfl) ?_ ?_ ?_
            rotate_left; rotate_left
            · intro w' hS; go_simp; with_reducible rfl
            · simp only [Act.put, List.setIfInBounds_toArray, List.set_cons_zero, List.set_cons_succ]; rfl
            refine seq_take (v := ?_) (a' := ?_) (some 21) rfl rfl (by rfl) ?_ ?_ ?_
            rotate_left; rotate_left
            · intro w' hS; go_simp; with_reducible rfl
            · simp only [Act.put, List.setIfInBounds_toArray, List.set_cons_zero, List.set_cons_succ]; rfl
            refine seq_take (v := ?_) (a' := ?_) (some 22) rfl rfl (by rfl) ?_ ?_ ?_
            rotate_left; rotate_left
            · intro w' hS; have p0 := cb hS d0; have p1 := cb hS d1; have p7 := cb hS d7; go_simp; with_reducible rfl
            · simp only [Act.put, List.setIfInBounds_toArray, List.set_cons_zero, List.set_cons_succ]; rfl
            refine seq_take (v := ?_) (a' := ?_) (some 23) rfl rfl (by rfl) ?_ ?_ ?_
            rotate_left; rotate_left
            · intro w' hS; go_simp; with_reducible rfl
            · simp only [Act.put, List.setIfInBounds_toArray, List.set_cons_zero, List.set_cons_succ]; rfl
            refine seq_take (v := ?_) (a' := ?_) (some 24) rfl rfl (by rfl) ?_ ?_ ?_
            rotate_left; rotate_left
            · intro w' hS; go_simp; with_reducible rfl
            · simp only [Act.put, List.setIfInBounds_toArray, List.set_cons_zero, List.set_cons_succ]; rfl
            refine seq_take (v := ?_) (a' := ?_) (some 25) rfl rfl (by rfl) ?_ ?_ ?_
            rotate_left; rotate_left
            · intro w' hS; go_simp; with_reducible rfl
            · simp only [Act.put, List.setIfInBounds_toArray, List.set_cons_zero, List.set_cons_succ]; rfl
            refine seq_take (v := ?_) (a' := ?_) (some 26) rfl rfl (by rfl) ?_ ?_ ?_
            rotate_left; rotate_left
            · intro w' hS; go_simp; with_reducible rfl
            · simp only [Act.put, List.setIfInBounds_toArray, List.set_cons_zero, List.set_cons_succ]; rfl
            refine seq_take (v := ?_) (a' := ?_) (some 27) rfl rfl (by rfl) ?_ ?_ ?_
            rotate_left; rotate_left
            · intro w' hS; go_simp; with_reducible rfl
            · simp only [Act.put, List.setIfInBounds_toArray, List.set_cons_zero, List.set_cons_succ]; rfl
            refine seq_take (v := ?_) (a' := ?_) (some 28) rfl rfl (by rfl) ?_ ?_ ?_
            rotate_left; rotate_left
            · intro w' hS; go_simp; with_reducible rfl
            · simp only [Act.put, List.setIfInBounds_toArray, List.set_cons_zero, List.set_cons_succ]; rfl
            refine seq_skip (a' := ?_) (some 29) rfl rfl (by rfl) ?_ ?_
            rotate_left
            · simp only [Act.put, List.setIfInBounds_toArray, List.set_cons_zero, List.set_cons_succ]; rfl
            refine seq_skip (a' := ?_) (some 30) rfl rfl (by rfl) ?_ ?_
            rotate_left
            · simp only [Act.put, List.setIfInBounds_toArray, List.set_cons_zero, List.set_cons_succ]; rfl
            refine seq_skip (a' := ?_) (some 31) rfl rfl (by rfl) ?_ ?_
            rotate_left
            · simp only [Act.put, List.setIfInBounds_toArray, List.set_cons_zero, List.set_cons_succ]; rfl
            refine seq_skip (a' := ?_) (some 32) rfl rfl (by rfl) ?_ ?_
            rotate_left
            · simp only [Act.put, List.setIfInBounds_toArray, List.set_cons_zero, List.set_cons_succ]; rfl
            refine seq_skip (a' := ?_) (some 33) rfl rfl (by rfl) ?_ ?_
            rotate_left
            · simp only [Act.put, List.setIfInBounds_toArray, List.set_cons_zero, List.set_cons_succ]; rfl
            refine seq_skip (a' := ?_) (some 34) rfl rfl (by rfl) ?_ ?_
            rotate_left
            · simp only [Act.put, List.setIfInBounds_toArray, List.set_cons_zero, List.set_cons_succ]; rfl
            refine seq_skip (a' := ?_) (some 35) rfl rfl (by rfl) ?_ ?_
            rotate_left
            · simp only [Act.put, List.setIfInBounds_toArray, List.set_cons_zero, List.set_cons_succ]; rfl
            refine seq_skip (a' := ?_) (some 36) rfl rfl (by rfl) ?_ ?_
            rotate_left
            · simp only [Act.put, List.setIfInBounds_toArray, List.set_cons_zero, List.set_cons_succ]; rfl
            refine seq_skip (a' := ?_) (some 37) rfl rfl (by rfl) ?_ ?_
            rotate_left
            · simp only [Act.put, List.setIfInBounds_toArray, List.set_cons_zero, List.set_cons_succ]; rfl
            refine seq_skip (a' := ?_) (some 38) rfl rfl (by rfl) ?_ ?_
            rotate_left
            · simp only [Act.put, List.setIfInBounds_toArray, List.set_cons_zero, List.set_cons_succ]; rfl
            refine seq_take (v := ?_) (a' := ?_) (some 39) rfl rfl (by rfl) ?_ ?_ ?_
            rotate_left; rotate_left
            · intro w' hS; go_simp; with_reducible rfl
            · simp only [Act.put, List.setIfInBounds_toArray, List.set_cons_zero, List.set_cons_succ]; rfl
            refine seq_take (v := ?_) (a' := ?_) (some 40) rfl rfl (by rfl) ?_ ?_ ?_
            rotate_left; rotate_left
            · intro w' hS; go_simp; with_reducible rfl
            · simp only [Act.put, List.setIfInBounds_toArray, List.set_cons_zero, List.set_cons_succ]; rfl
            refine seq_done ?_
            go_wp2_with fail
            go_roundw
            case rel => exact ⟨1, rfl, by omega, HOK, Lib.hid (bl_next HBU.out hB)⟩
            case measure => simp [intOf]; omega
          · obtain ⟨s, hs, hc⟩ := PREV.out (by omega)
            have hk0 : (0 : Int) < k := by omega
            have Q1 := cb HW9.out hc
            have hk1 : ((k : Int) - 1).toNat = k - 1 := by omega
            have hk2 : (0 : Int) ≤ (k : Int) - 1 := by omega
            have hk3 : (k : Int) - 1 < l.length := by omega
            have hk4 : (1 : Int) ≤ k := by omega
            have hk5 : 0 < k := by omega
            have hk6 : decide (0 < k) = true := decide_eq_true hk5
            have hk7 : IntKind.i64.wrap ((k : Int) - 1) = (k : Int) - 1 := IntWalk.i64_in _ (by omega)
            have hk8 : 1 ≤ k := hk5
            cases hlt : ltB s p.1 with
            | true =>
              have hbl : Op.bytesLess s.toList p.1.toList = true := hlt
              have HOK := Lib.hid (show chargeB (l.take (k + 1)) = true by have := STEP.out; rw [HE.out, dif_pos (by omega), hs, hlt] at this; simpa using this)
              clear hlt
              have hB := hB.drew
              refine region_seq (fun w' => Below U.heap.size U w') [(0, true), (1, true), (2, false), (3, true), (4, true), (5, true), (6, true), (7, true), (8, true), (9, true), (10, true), (11, true), (12, true), (13, true), (14, true), (15, true), (16, true), (17, true), (18, true), (19, true), (20, true), (21, true), (22, true), (23, true), (24, true)] (by kernel_rfl) (by kernel_rfl) (fun _ _ _ _ h => h) hB ?_
              try generalize World.drew _ = wS at hB ⊢
              refine seq_take (v := ?_) (a' := ?_) (some 16) rfl rfl (by rfl) ?_ ?_ ?_
              rotate_left; rotate_left
              · intro w' hS; go_simp; with_reducible rfl
              · simp only [Act.put, List.setIfInBounds_toArray, List.set_cons_zero, List.set_cons_succ]; rfl
              refine seq_take (v := ?_) (a' := ?_) (some 17) rfl rfl (by rfl) ?_ ?_ ?_
              rotate_left; rotate_left
              · intro w' hS; have p0 := cb hS d0; have p1 := cb hS d1; have p3 := cb hS Q1; have p7 := cb hS d7; go_simp; with_reducible rfl
              · simp only [Act.put, List.setIfInBounds_toArray, List.set_cons_zero, List.set_cons_succ]; rfl
              refine seq_call (args := ?_) Try.func89 (by kernel_rfl) rfl (some 18) rfl rfl (by rfl) rfl ?_ ?_
              rotate_left
              · simp only [List.map_toArray, List.map_cons, List.map_nil]; go_simp; rfl
              with_reducible refine (right_calls _ _ (by omega)).mono ?_
              rintro e w' ⟨rfl, hb⟩
              rw [hrt]
              refine ⟨_, rfl, bl_next (by repeat (first | with_reducible exact hB | refine Below.alloc ?_ (by have := hB.size; simp; omega) _ | refine bl_dN ?_ _ | refine Below.drew ?_ | refine Below.setCell ?_ (by have := hB.size; simp; omega) _)) hb, ?_⟩
              have hB := bl_next (by repeat (first | with_reducible exact hB | refine Below.alloc ?_ (by have := hB.size; simp; omega) _ | refine bl_dN ?_ _ | refine Below.drew ?_ | refine Below.setCell ?_ (by have := hB.size; simp; omega) _)) hb; clear hb
              simp only [Act.put, List.setIfInBounds_toArray, List.set_cons_zero, List.set_cons_succ]
              refine seq_take (v := ?_) (a' := ?_) (some 19) rfl rfl (by rfl) ?_ ?_ ?_
              rotate_left; rotate_left
              · intro w' hS; go_simp; with_reducible rfl
              · simp only [Act.put, List.setIfInBounds_toArray, List.set_cons_zero, List.set_cons_succ]; rfl
              refine seq_take (v := ?_) (a' := ?_) (some 20) rfl rfl (by rfl) ?_ ?_ ?_
              rotate_left; rotate_left
              · intro w' hS; go_simp; with_reducible rfl
              · simp only [Act.put, List.setIfInBounds_toArray, List.set_cons_zero, List.set_cons_succ]; rfl
              refine seq_take (v := ?_) (a' := ?_) (some 21) rfl rfl (by rfl) ?_ ?_ ?_
              rotate_left; rotate_left
              · intro w' hS; go_simp; with_reducible rfl
              · simp only [Act.put, List.setIfInBounds_toArray, List.set_cons_zero, List.set_cons_succ]; rfl
              refine seq_take (v := ?_) (a' := ?_) (some 22) rfl rfl (by rfl) ?_ ?_ ?_
              rotate_left; rotate_left
              · intro w' hS; have p0 := cb hS d0; have p1 := cb hS d1; have p3 := cb hS Q1; have p7 := cb hS d7; go_simp; with_reducible rfl
              · simp only [Act.put, List.setIfInBounds_toArray, List.set_cons_zero, List.set_cons_succ]; rfl
              refine seq_take (v := ?_) (a' := ?_) (some 23) rfl rfl (by rfl) ?_ ?_ ?_
              rotate_left; rotate_left
              · intro w' hS; go_simp; with_reducible rfl
              · simp only [Act.put, List.setIfInBounds_toArray, List.set_cons_zero, List.set_cons_succ]; rfl
              refine seq_take (v := ?_) (a' := ?_) (some 24) rfl rfl (by rfl) ?_ ?_ ?_
              rotate_left; rotate_left
              · intro w' hS; go_simp; with_reducible rfl
              · simp only [Act.put, List.setIfInBounds_toArray, List.set_cons_zero, List.set_cons_succ]; rfl
              refine seq_take (v := ?_) (a' := ?_) (some 25) rfl rfl (by rfl) ?_ ?_ ?_
              rotate_left; rotate_left
              · intro w' hS; go_simp; with_reducible rfl
              · simp only [Act.put, List.setIfInBounds_toArray, List.set_cons_zero, List.set_cons_succ]; rfl
              refine seq_take (v := ?_) (a' := ?_) (some 26) rfl rfl (by rfl) ?_ ?_ ?_
              rotate_left; rotate_left
              · intro w' hS; go_simp; with_reducible rfl
              · simp only [Act.put, List.setIfInBounds_toArray, List.set_cons_zero, List.set_cons_succ]; rfl
              refine seq_take (v := ?_) (a' := ?_) (some 27) rfl rfl (by rfl) ?_ ?_ ?_
              rotate_left; rotate_left
              · intro w' hS; go_simp; with_reducible rfl
              · simp only [Act.put, List.setIfInBounds_toArray, List.set_cons_zero, List.set_cons_succ]; rfl
              refine seq_take (v := ?_) (a' := ?_) (some 28) rfl rfl (by rfl) ?_ ?_ ?_
              rotate_left; rotate_left
              · intro w' hS; go_simp; with_reducible rfl
              · simp only [Act.put, List.setIfInBounds_toArray, List.set_cons_zero, List.set_cons_succ]; rfl
              refine seq_take (v := ?_) (a' := ?_) (some 29) rfl rfl (by rfl) ?_ ?_ ?_
              rotate_left; rotate_left
              · intro w' hS; go_simp; with_reducible rfl
              · simp only [Act.put, List.setIfInBounds_toArray, List.set_cons_zero, List.set_cons_succ]; rfl
              refine seq_take (v := ?_) (a' := ?_) (some 30) rfl rfl (by rfl) ?_ ?_ ?_
              rotate_left; rotate_left
              · intro w' hS; have p0 := cb hS d0; have p1 := cb hS d1; have p3 := cb hS Q1; have p7 := cb hS d7; go_simp; with_reducible rfl
              · simp only [Act.put, List.setIfInBounds_toArray, List.set_cons_zero, List.set_cons_succ]; rfl
              refine seq_take (v := ?_) (a' := ?_) (some 31) rfl rfl (by rfl) ?_ ?_ ?_
              rotate_left; rotate_left
              · intro w' hS; go_simp; with_reducible rfl
              · simp only [Act.put, List.setIfInBounds_toArray, List.set_cons_zero, List.set_cons_succ]; rfl
              refine seq_take (v := ?_) (a' := ?_) (some 32) rfl rfl (by rfl) ?_ ?_ ?_
              rotate_left; rotate_left
              · intro w' hS; go_simp; with_reducible rfl
              · simp only [Act.put, List.setIfInBounds_toArray, List.set_cons_zero, List.set_cons_succ]; rfl
              refine seq_take (v := ?_) (a' := ?_) (some 33) rfl rfl (by rfl) ?_ ?_ ?_
              rotate_left; rotate_left
              · intro w' hS; go_simp; with_reducible rfl
              · simp only [Act.put, List.setIfInBounds_toArray, List.set_cons_zero, List.set_cons_succ]; rfl
              refine seq_take (v := ?_) (a' := ?_) (some 34) rfl rfl (by rfl) ?_ ?_ ?_
              rotate_left; rotate_left
              · intro w' hS; go_simp; with_reducible rfl
              · simp only [Act.put, List.setIfInBounds_toArray, List.set_cons_zero, List.set_cons_succ]; rfl
              refine seq_take (v := ?_) (a' := ?_) (some 35) rfl rfl (by rfl) ?_ ?_ ?_
              rotate_left; rotate_left
              · intro w' hS; have p0 := cb hS d0; have p1 := cb hS d1; have p3 := cb hS Q1; have p7 := cb hS d7; go_simp; with_reducible rfl
              · simp only [Act.put, List.setIfInBounds_toArray, List.set_cons_zero, List.set_cons_succ]; rfl
              refine seq_take (v := ?_) (a' := ?_) (some 36) rfl rfl (by rfl) ?_ ?_ ?_
              rotate_left; rotate_left
              · intro w' hS; go_simp; with_reducible rfl
              · simp only [Act.put, List.setIfInBounds_toArray, List.set_cons_zero, List.set_cons_succ]; rfl
              refine seq_take (v := ?_) (a' := ?_) (some 37) rfl rfl (by rfl) ?_ ?_ ?_
              rotate_left; rotate_left
              · intro w' hS; have p0 := cb hS d0; have p1 := cb hS d1; have p3 := cb hS Q1; have p7 := cb hS d7; go_simp; with_reducible rfl
              · simp only [Act.put, List.setIfInBounds_toArray, List.set_cons_zero, List.set_cons_succ]; rfl
              refine seq_take (v := ?_) (a' := ?_) (some 38) rfl rfl (by rfl) ?_ ?_ ?_
              rotate_left; rotate_left
              · intro w' hS; go_simp; with_reducible rfl
              · simp only [Act.put, List.setIfInBounds_toArray, List.set_cons_zero, List.set_cons_succ]; rfl
              refine seq_take (v := ?_) (a' := ?_) (some 39) rfl rfl (by rfl) ?_ ?_ ?_
              rotate_left; rotate_left
              · intro w' hS; go_simp; with_reducible rfl
              · simp only [Act.put, List.setIfInBounds_toArray, List.set_cons_zero, List.set_cons_succ]; rfl
              refine seq_take (v := ?_) (a' := ?_) (some 40) rfl rfl (by rfl) ?_ ?_ ?_
              rotate_left; rotate_left
              · intro w' hS; go_simp; with_reducible rfl
              · simp only [Act.put, List.setIfInBounds_toArray, List.set_cons_zero, List.set_cons_succ]; rfl
              refine seq_done ?_
              go_wp2_with fail
              go_roundw
              case rel => exact ⟨k + 1, by simp, by omega, HOK, Lib.hid (bl_next HBU.out hB)⟩
              case measure => simp [intOf]; omega
            | false =>
              have hbl : Op.bytesLess s.toList p.1.toList = false := hlt
              have HN := Lib.hid (NOT.out (by have := STEP.out; rw [HE.out, dif_pos (by omega), hs, hlt] at this; simpa using this))
              clear hlt
              have hB := hB.drew
              refine region_seq (fun w' => Below U.heap.size U w') [(0, true), (1, true), (2, false), (3, true), (4, true), (5, true), (6, true), (7, true), (8, true), (9, true), (10, true), (11, true), (12, true), (13, true), (14, true), (15, true), (16, true), (17, true), (18, true), (19, true), (20, true), (21, true), (22, true), (23, true), (24, true)] (by kernel_rfl) (by kernel_rfl) (fun _ _ _ _ h => h) hB ?_
              try generalize World.drew _ = wS at hB ⊢
              refine seq_take (v := ?_) (a' := ?_) (some 16) rfl rfl (by rfl) ?_ ?_ ?_
              rotate_left; rotate_left
              · intro w' hS; go_simp; with_reducible rfl
              · simp only [Act.put, List.setIfInBounds_toArray, List.set_cons_zero, List.set_cons_succ]; rfl
              refine seq_take (v := ?_) (a' := ?_) (some 17) rfl rfl (by rfl) ?_ ?_ ?_
              rotate_left; rotate_left
              · intro w' hS; have p0 := cb hS d0; have p1 := cb hS d1; have p3 := cb hS Q1; have p7 := cb hS d7; go_simp; with_reducible rfl
              · simp only [Act.put, List.setIfInBounds_toArray, List.set_cons_zero, List.set_cons_succ]; rfl
              refine seq_call (args := ?_) Try.func89 (by kernel_rfl) rfl (some 18) rfl rfl (by rfl) rfl ?_ ?_
              rotate_left
              · simp only [List.map_toArray, List.map_cons, List.map_nil]; go_simp; rfl
              with_reducible refine (right_calls _ _ (by omega)).mono ?_
              rintro e w' ⟨rfl, hb⟩
              rw [hrt]
              refine ⟨_, rfl, bl_next (by repeat (first | with_reducible exact hB | refine Below.alloc ?_ (by have := hB.size; simp; omega) _ | refine bl_dN ?_ _ | refine Below.drew ?_ | refine Below.setCell ?_ (by have := hB.size; simp; omega) _)) hb, ?_⟩
              have hB := bl_next (by repeat (first | with_reducible exact hB | refine Below.alloc ?_ (by have := hB.size; simp; omega) _ | refine bl_dN ?_ _ | refine Below.drew ?_ | refine Below.setCell ?_ (by have := hB.size; simp; omega) _)) hb; clear hb
              simp only [Act.put, List.setIfInBounds_toArray, List.set_cons_zero, List.set_cons_succ]
              refine seq_take (v := ?_) (a' := ?_) (some 19) rfl rfl (by rfl) ?_ ?_ ?_
              rotate_left; rotate_left
              · intro w' hS; go_simp; with_reducible rfl
              · simp only [Act.put, List.setIfInBounds_toArray, List.set_cons_zero, List.set_cons_succ]; rfl
              refine seq_take (v := ?_) (a' := ?_) (some 20) rfl rfl (by rfl) ?_ ?_ ?_
              rotate_left; rotate_left
              · intro w' hS; go_simp; with_reducible rfl
              · simp only [Act.put, List.setIfInBounds_toArray, List.set_cons_zero, List.set_cons_succ]; rfl
              refine seq_take (v := ?_) (a' := ?_) (some 21) rfl rfl (by rfl) ?_ ?_ ?_
              rotate_left; rotate_left
              · intro w' hS; go_simp; with_reducible rfl
              · simp only [Act.put, List.setIfInBounds_toArray, List.set_cons_zero, List.set_cons_succ]; rfl
              refine seq_take (v := ?_) (a' := ?_) (some 22) rfl rfl (by rfl) ?_ ?_ ?_
              rotate_left; rotate_left
              · intro w' hS; have p0 := cb hS d0; have p1 := cb hS d1; have p3 := cb hS Q1; have p7 := cb hS d7; go_simp; with_reducible rfl
              · simp only [Act.put, List.setIfInBounds_toArray, List.set_cons_zero, List.set_cons_succ]; rfl
              refine seq_take (v := ?_) (a' := ?_) (some 23) rfl rfl (by rfl) ?_ ?_ ?_
              rotate_left; rotate_left
              · intro w' hS; go_simp; with_reducible rfl
              · simp only [Act.put, List.setIfInBounds_toArray, List.set_cons_zero, List.set_cons_succ]; rfl
              refine seq_take (v := ?_) (a' := ?_) (some 24) rfl rfl (by rfl) ?_ ?_ ?_
              rotate_left; rotate_left
              · intro w' hS; go_simp; with_reducible rfl
              · simp only [Act.put, List.setIfInBounds_toArray, List.set_cons_zero, List.set_cons_succ]; rfl
              refine seq_take (v := ?_) (a' := ?_) (some 25) rfl rfl (by rfl) ?_ ?_ ?_
              rotate_left; rotate_left
              · intro w' hS; go_simp; with_reducible rfl
              · simp only [Act.put, List.setIfInBounds_toArray, List.set_cons_zero, List.set_cons_succ]; rfl
              refine seq_take (v := ?_) (a' := ?_) (some 26) rfl rfl (by rfl) ?_ ?_ ?_
              rotate_left; rotate_left
              · intro w' hS; go_simp; with_reducible rfl
              · simp only [Act.put, List.setIfInBounds_toArray, List.set_cons_zero, List.set_cons_succ]; rfl
              refine seq_take (v := ?_) (a' := ?_) (some 27) rfl rfl (by rfl) ?_ ?_ ?_
              rotate_left; rotate_left
              · intro w' hS; go_simp; with_reducible rfl
              · simp only [Act.put, List.setIfInBounds_toArray, List.set_cons_zero, List.set_cons_succ]; rfl
              refine seq_take (v := ?_) (a' := ?_) (some 28) rfl rfl (by rfl) ?_ ?_ ?_
              rotate_left; rotate_left
              · intro w' hS; go_simp; with_reducible rfl
              · simp only [Act.put, List.setIfInBounds_toArray, List.set_cons_zero, List.set_cons_succ]; rfl
              refine seq_take (v := ?_) (a' := ?_) (some 29) rfl rfl (by rfl) ?_ ?_ ?_
              rotate_left; rotate_left
              · intro w' hS; go_simp; with_reducible rfl
              · simp only [Act.put, List.setIfInBounds_toArray, List.set_cons_zero, List.set_cons_succ]; rfl
              refine seq_take (v := ?_) (a' := ?_) (some 30) rfl rfl (by rfl) ?_ ?_ ?_
              rotate_left; rotate_left
              · intro w' hS; have p0 := cb hS d0; have p1 := cb hS d1; have p3 := cb hS Q1; have p7 := cb hS d7; go_simp; with_reducible rfl
              · simp only [Act.put, List.setIfInBounds_toArray, List.set_cons_zero, List.set_cons_succ]; rfl
              refine seq_take (v := ?_) (a' := ?_) (some 31) rfl rfl (by rfl) ?_ ?_ ?_
              rotate_left; rotate_left
              · intro w' hS; go_simp; with_reducible rfl
              · simp only [Act.put, List.setIfInBounds_toArray, List.set_cons_zero, List.set_cons_succ]; rfl
              refine seq_take (v := ?_) (a' := ?_) (some 32) rfl rfl (by rfl) ?_ ?_ ?_
              rotate_left; rotate_left
              · intro w' hS; go_simp; with_reducible rfl
              · simp only [Act.put, List.setIfInBounds_toArray, List.set_cons_zero, List.set_cons_succ]; rfl
              refine seq_take (v := ?_) (a' := ?_) (some 33) rfl rfl (by rfl) ?_ ?_ ?_
              rotate_left; rotate_left
              · intro w' hS; go_simp; with_reducible rfl
              · simp only [Act.put, List.setIfInBounds_toArray, List.set_cons_zero, List.set_cons_succ]; rfl
              refine seq_take (v := ?_) (a' := ?_) (some 34) rfl rfl (by rfl) ?_ ?_ ?_
              rotate_left; rotate_left
              · intro w' hS; go_simp; with_reducible rfl
              · simp only [Act.put, List.setIfInBounds_toArray, List.set_cons_zero, List.set_cons_succ]; rfl
              refine seq_take (v := ?_) (a' := ?_) (some 35) rfl rfl (by rfl) ?_ ?_ ?_
              rotate_left; rotate_left
              · intro w' hS; have p0 := cb hS d0; have p1 := cb hS d1; have p3 := cb hS Q1; have p7 := cb hS d7; go_simp; with_reducible rfl
              · simp only [Act.put, List.setIfInBounds_toArray, List.set_cons_zero, List.set_cons_succ]; rfl
              refine seq_take (v := ?_) (a' := ?_) (some 36) rfl rfl (by rfl) ?_ ?_ ?_
              rotate_left; rotate_left
              · intro w' hS; go_simp; with_reducible rfl
              · simp only [Act.put, List.setIfInBounds_toArray, List.set_cons_zero, List.set_cons_succ]; rfl
              refine seq_take (v := ?_) (a' := ?_) (some 37) rfl rfl (by rfl) ?_ ?_ ?_
              rotate_left; rotate_left
              · intro w' hS; have p0 := cb hS d0; have p1 := cb hS d1; have p3 := cb hS Q1; have p7 := cb hS d7; go_simp; with_reducible rfl
              · simp only [Act.put, List.setIfInBounds_toArray, List.set_cons_zero, List.set_cons_succ]; rfl
              refine seq_take (v := ?_) (a' := ?_) (some 38) rfl rfl (by rfl) ?_ ?_ ?_
              rotate_left; rotate_left
              · intro w' hS; go_simp; with_reducible rfl
              · simp only [Act.put, List.setIfInBounds_toArray, List.set_cons_zero, List.set_cons_succ]; rfl
              refine seq_take (v := ?_) (a' := ?_) (some 39) rfl rfl (by rfl) ?_ ?_ ?_
              rotate_left; rotate_left
              · intro w' hS; go_simp; with_reducible rfl
              · simp only [Act.put, List.setIfInBounds_toArray, List.set_cons_zero, List.set_cons_succ]; rfl
              refine seq_take (v := ?_) (a' := ?_) (some 40) rfl rfl (by rfl) ?_ ?_ ?_
              rotate_left; rotate_left
              · intro w' hS; go_simp; with_reducible rfl
              · simp only [Act.put, List.setIfInBounds_toArray, List.set_cons_zero, List.set_cons_succ]; rfl
              refine seq_done ?_
              go_wp2_with fail
              go_ret
              exact ⟨ret_bool HN.out.symm, bl_from Hw.out (bl_next HBU.out hB)⟩
      · have hrf : rightB p.1 = false := by simpa using hrt
        have HN := Lib.hid (NOT.out (by rw [STEP.out]; unfold resB; rw [hrf]; simp))
        clear hrt
        have hB := hB.drew
        refine region_seq (fun w' => Below U.heap.size U w') [(0, true), (1, true), (2, false), (3, true), (4, true), (5, true), (6, true), (7, true), (8, true), (9, true), (10, true), (11, true), (12, true), (13, true), (14, true), (15, true), (16, true), (17, true), (18, true), (19, true), (20, true), (21, true), (22, true), (23, true), (24, true)] (by kernel_rfl) (by kernel_rfl) (fun _ _ _ _ h => h) hB ?_
        try generalize World.drew _ = wS at hB ⊢
        refine seq_take (v := ?_) (a' := ?_) (some 16) rfl rfl (by rfl) ?_ ?_ ?_
        rotate_left; rotate_left
        · intro w' hS; go_simp; with_reducible rfl
        · simp only [Act.put, List.setIfInBounds_toArray, List.set_cons_zero, List.set_cons_succ]; rfl
        refine seq_take (v := ?_) (a' := ?_) (some 17) rfl rfl (by rfl) ?_ ?_ ?_
        rotate_left; rotate_left
        · intro w' hS; have p0 := cb hS d0; have p1 := cb hS d1; have p7 := cb hS d7; go_simp; with_reducible rfl
        · simp only [Act.put, List.setIfInBounds_toArray, List.set_cons_zero, List.set_cons_succ]; rfl
        refine seq_call (args := ?_) Try.func89 (by kernel_rfl) rfl (some 18) rfl rfl (by rfl) rfl ?_ ?_
        rotate_left
        · simp only [List.map_toArray, List.map_cons, List.map_nil]; go_simp; rfl
        with_reducible refine (right_calls _ _ (by omega)).mono ?_
        rintro e w' ⟨rfl, hb⟩
        rw [hrf]
        refine ⟨_, rfl, bl_next (by repeat (first | with_reducible exact hB | refine Below.alloc ?_ (by have := hB.size; simp; omega) _ | refine bl_dN ?_ _ | refine Below.drew ?_ | refine Below.setCell ?_ (by have := hB.size; simp; omega) _)) hb, ?_⟩
        have hB := bl_next (by repeat (first | with_reducible exact hB | refine Below.alloc ?_ (by have := hB.size; simp; omega) _ | refine bl_dN ?_ _ | refine Below.drew ?_ | refine Below.setCell ?_ (by have := hB.size; simp; omega) _)) hb; clear hb
        simp only [Act.put, List.setIfInBounds_toArray, List.set_cons_zero, List.set_cons_succ]
        refine seq_take (v := ?_) (a' := ?_) (some 19) rfl rfl (by rfl) ?_ ?_ ?_
        rotate_left; rotate_left
        · intro w' hS; go_simp; with_reducible rfl
        · simp only [Act.put, List.setIfInBounds_toArray, List.set_cons_zero, List.set_cons_succ]; rfl
        refine seq_take (v := ?_) (a' := ?_) (some 20) rfl rfl (by rfl) ?_ ?_ ?_
        rotate_left; rotate_left
        · intro w' hS; go_simp; with_reducible rfl
        · simp only [Act.put, List.setIfInBounds_toArray, List.set_cons_zero, List.set_cons_succ]; rfl
        refine seq_skip (a' := ?_) (some 21) rfl rfl (by rfl) ?_ ?_
        rotate_left
        · simp only [Act.put, List.setIfInBounds_toArray, List.set_cons_zero, List.set_cons_succ]; rfl
        refine seq_skip (a' := ?_) (some 22) rfl rfl (by rfl) ?_ ?_
        rotate_left
        · simp only [Act.put, List.setIfInBounds_toArray, List.set_cons_zero, List.set_cons_succ]; rfl
        refine seq_skip (a' := ?_) (some 23) rfl rfl (by rfl) ?_ ?_
        rotate_left
        · simp only [Act.put, List.setIfInBounds_toArray, List.set_cons_zero, List.set_cons_succ]; rfl
        refine seq_take (v := ?_) (a' := ?_) (some 24) rfl rfl (by rfl) ?_ ?_ ?_
        rotate_left; rotate_left
        · intro w' hS; go_simp; with_reducible rfl
        · simp only [Act.put, List.setIfInBounds_toArray, List.set_cons_zero, List.set_cons_succ]; rfl
        refine seq_take (v := ?_) (a' := ?_) (some 25) rfl rfl (by rfl) ?_ ?_ ?_
        rotate_left; rotate_left
        · intro w' hS; go_simp; with_reducible rfl
        · simp only [Act.put, List.setIfInBounds_toArray, List.set_cons_zero, List.set_cons_succ]; rfl
        refine seq_skip (a' := ?_) (some 26) rfl rfl (by rfl) ?_ ?_
        rotate_left
        · simp only [Act.put, List.setIfInBounds_toArray, List.set_cons_zero, List.set_cons_succ]; rfl
        refine seq_skip (a' := ?_) (some 27) rfl rfl (by rfl) ?_ ?_
        rotate_left
        · simp only [Act.put, List.setIfInBounds_toArray, List.set_cons_zero, List.set_cons_succ]; rfl
        refine seq_skip (a' := ?_) (some 28) rfl rfl (by rfl) ?_ ?_
        rotate_left
        · simp only [Act.put, List.setIfInBounds_toArray, List.set_cons_zero, List.set_cons_succ]; rfl
        refine seq_skip (a' := ?_) (some 29) rfl rfl (by rfl) ?_ ?_
        rotate_left
        · simp only [Act.put, List.setIfInBounds_toArray, List.set_cons_zero, List.set_cons_succ]; rfl
        refine seq_skip (a' := ?_) (some 30) rfl rfl (by rfl) ?_ ?_
        rotate_left
        · simp only [Act.put, List.setIfInBounds_toArray, List.set_cons_zero, List.set_cons_succ]; rfl
        refine seq_skip (a' := ?_) (some 31) rfl rfl (by rfl) ?_ ?_
        rotate_left
        · simp only [Act.put, List.setIfInBounds_toArray, List.set_cons_zero, List.set_cons_succ]; rfl
        refine seq_skip (a' := ?_) (some 32) rfl rfl (by rfl) ?_ ?_
        rotate_left
        · simp only [Act.put, List.setIfInBounds_toArray, List.set_cons_zero, List.set_cons_succ]; rfl
        refine seq_skip (a' := ?_) (some 33) rfl rfl (by rfl) ?_ ?_
        rotate_left
        · simp only [Act.put, List.setIfInBounds_toArray, List.set_cons_zero, List.set_cons_succ]; rfl
        refine seq_skip (a' := ?_) (some 34) rfl rfl (by rfl) ?_ ?_
        rotate_left
        · simp only [Act.put, List.setIfInBounds_toArray, List.set_cons_zero, List.set_cons_succ]; rfl
        refine seq_skip (a' := ?_) (some 35) rfl rfl (by rfl) ?_ ?_
        rotate_left
        · simp only [Act.put, List.setIfInBounds_toArray, List.set_cons_zero, List.set_cons_succ]; rfl
        refine seq_skip (a' := ?_) (some 36) rfl rfl (by rfl) ?_ ?_
        rotate_left
        · simp only [Act.put, List.setIfInBounds_toArray, List.set_cons_zero, List.set_cons_succ]; rfl
        refine seq_skip (a' := ?_) (some 37) rfl rfl (by rfl) ?_ ?_
        rotate_left
        · simp only [Act.put, List.setIfInBounds_toArray, List.set_cons_zero, List.set_cons_succ]; rfl
        refine seq_skip (a' := ?_) (some 38) rfl rfl (by rfl) ?_ ?_
        rotate_left
        · simp only [Act.put, List.setIfInBounds_toArray, List.set_cons_zero, List.set_cons_succ]; rfl
        refine seq_skip (a' := ?_) (some 39) rfl rfl (by rfl) ?_ ?_
        rotate_left
        · simp only [Act.put, List.setIfInBounds_toArray, List.set_cons_zero, List.set_cons_succ]; rfl
        refine seq_take (v := ?_) (a' := ?_) (some 40) rfl rfl (by rfl) ?_ ?_ ?_
        rotate_left; rotate_left
        · intro w' hS; go_simp; with_reducible rfl
        · simp only [Act.put, List.setIfInBounds_toArray, List.set_cons_zero, List.set_cons_succ]; rfl
        refine seq_done ?_
        go_wp2_with fail
        go_ret
        exact ⟨ret_bool HN.out.symm, bl_from Hw.out (bl_next HBU.out hB)⟩
    · obtain rfl : k = l.length := by omega
      have hR := HR.out
      rw [List.take_length] at hR
      have HE := Lib.hid (show rightO ⟨⟨kk, ks, kn⟩, ver, cls, term, best, chg⟩ = (keyOk ⟨kk, ks, kn⟩ && decide (1 ≤ ver) && clsB cls && decide (l.length ≤ 16)) by rw [HO.out, hR]; simp)
      clear hR
      have HKO := Lib.hid (show keyB kk ks kn = keyOk ⟨kk, ks, kn⟩ from rfl)
      obtain ⟨ko, hko⟩ : ∃ b, keyOk ⟨kk, ks, kn⟩ = b := ⟨_, rfl⟩
      rw [hko] at HKO HE
      have hce : cls.toList = [] ↔ cls = ⟨#[]⟩ := ⟨fun e => ba_eq.1 (by rw [e, empty_list]), fun e => by rw [e, empty_list]⟩
      clear hko
      cases ko with
      | false =>
        go_wp2_with (go_at_call 70; refine (key_calls _ _ _ _ (by omega) (by omega) (by omega)).mono ?_; rintro e w' ⟨rfl, hb⟩; rw [HKO.out]; have HBq := Lib.hid (bl_next HBr.out hb); clear hb; have k0_0 := cb HBq.out c0_0; have k0_1 := cb HBq.out c0_1; have k0_2 := cb HBq.out c0_2; have k0_3 := cb HBq.out c0_3; have k0_4 := cb HBq.out c0_4; have k0_5 := cb HBq.out c0_5; have k0_6 := cb HBq.out c0_6; have k0_7 := cb HBq.out c0_7)
        go_ret
        exact ⟨ret_bool (by rw [HE.out]; simp), bl_from Hw.out HBq.out⟩
      | true =>
        by_cases hver : 1 ≤ ver
        · by_cases hcls : cls = ⟨#[]⟩
          · have hc1 : cls.toList = [] := hce.2 hcls
            have HCB := Lib.hid (show clsB cls = true by unfold clsB; rw [decide_eq_true hcls]; rfl)
            clear hce hcls
            by_cases h16 : l.length ≤ 16
            · have h16I : (l.length : Int) ≤ 16 := by omega
              go_wp2_with (go_at_call 70; refine (key_calls _ _ _ _ (by omega) (by omega) (by omega)).mono ?_; rintro e w' ⟨rfl, hb⟩; rw [HKO.out]; have HBq := Lib.hid (bl_next HBr.out hb); clear hb; have k0_0 := cb HBq.out c0_0; have k0_1 := cb HBq.out c0_1; have k0_2 := cb HBq.out c0_2; have k0_3 := cb HBq.out c0_3; have k0_4 := cb HBq.out c0_4; have k0_5 := cb HBq.out c0_5; have k0_6 := cb HBq.out c0_6; have k0_7 := cb HBq.out c0_7)
              go_ret
              exact ⟨ret_bool (by rw [HE.out, HCB.out, decide_eq_true hver, decide_eq_true h16]; rfl), bl_from Hw.out HBq.out⟩
            · have h16I : (16 : Int) < l.length := by omega
              go_wp2_with (go_at_call 70; refine (key_calls _ _ _ _ (by omega) (by omega) (by omega)).mono ?_; rintro e w' ⟨rfl, hb⟩; rw [HKO.out]; have HBq := Lib.hid (bl_next HBr.out hb); clear hb; have k0_0 := cb HBq.out c0_0; have k0_1 := cb HBq.out c0_1; have k0_2 := cb HBq.out c0_2; have k0_3 := cb HBq.out c0_3; have k0_4 := cb HBq.out c0_4; have k0_5 := cb HBq.out c0_5; have k0_6 := cb HBq.out c0_6; have k0_7 := cb HBq.out c0_7)
              go_ret
              exact ⟨ret_bool (by rw [HE.out, HCB.out, decide_eq_true hver, decide_eq_false (p := l.length ≤ 16) (by omega)]; simp; omega), bl_from Hw.out HBq.out⟩
          · have hc1 : ¬ cls.toList = [] := fun e => hcls (hce.1 e)
            have hc2 : (cls.toList == []) = false := by simpa using hc1
            have hc3 : cls.toList.isEmpty = false := by simpa using hc1
            have HCB := Lib.hid (show clsB cls = rightB cls by unfold clsB; rw [decide_eq_false hcls]; rfl)
            obtain ⟨rc, hrc⟩ : ∃ b, rightB cls = b := ⟨_, rfl⟩
            have HRC := Lib.hid hrc
            rw [hrc] at HCB
            clear hce hcls hrc
            cases rc with
            | false =>
              go_wp2_with (first | (go_at_call 70; refine (key_calls _ _ _ _ (by omega) (by omega) (by omega)).mono ?_; rintro e w' ⟨rfl, hb⟩; rw [HKO.out]; have HBq := Lib.hid (bl_next HBr.out hb); clear hb; have k0_0 := cb HBq.out c0_0; have k0_1 := cb HBq.out c0_1; have k0_2 := cb HBq.out c0_2; have k0_3 := cb HBq.out c0_3; have k0_4 := cb HBq.out c0_4; have k0_5 := cb HBq.out c0_5; have k0_6 := cb HBq.out c0_6; have k0_7 := cb HBq.out c0_7) | (go_at_call 89; refine (right_calls _ _ (by omega)).mono ?_; rintro e w' ⟨rfl, hb⟩; rw [HRC.out]; have HBr := HBq; have HBq := Lib.hid (bl_next HBr.out hb); clear hb; have k0_0 := cb HBq.out c0_0; have k0_1 := cb HBq.out c0_1; have k0_2 := cb HBq.out c0_2; have k0_3 := cb HBq.out c0_3; have k0_4 := cb HBq.out c0_4; have k0_5 := cb HBq.out c0_5; have k0_6 := cb HBq.out c0_6; have k0_7 := cb HBq.out c0_7))
              go_ret
              exact ⟨ret_bool (by rw [HE.out, HCB.out]; simp), bl_from Hw.out HBq.out⟩
            | true =>
              by_cases h16 : l.length ≤ 16
              · have h16I : (l.length : Int) ≤ 16 := by omega
                go_wp2_with (first | (go_at_call 70; refine (key_calls _ _ _ _ (by omega) (by omega) (by omega)).mono ?_; rintro e w' ⟨rfl, hb⟩; rw [HKO.out]; have HBq := Lib.hid (bl_next HBr.out hb); clear hb; have k0_0 := cb HBq.out c0_0; have k0_1 := cb HBq.out c0_1; have k0_2 := cb HBq.out c0_2; have k0_3 := cb HBq.out c0_3; have k0_4 := cb HBq.out c0_4; have k0_5 := cb HBq.out c0_5; have k0_6 := cb HBq.out c0_6; have k0_7 := cb HBq.out c0_7) | (go_at_call 89; refine (right_calls _ _ (by omega)).mono ?_; rintro e w' ⟨rfl, hb⟩; rw [HRC.out]; have HBr := HBq; have HBq := Lib.hid (bl_next HBr.out hb); clear hb; have k0_0 := cb HBq.out c0_0; have k0_1 := cb HBq.out c0_1; have k0_2 := cb HBq.out c0_2; have k0_3 := cb HBq.out c0_3; have k0_4 := cb HBq.out c0_4; have k0_5 := cb HBq.out c0_5; have k0_6 := cb HBq.out c0_6; have k0_7 := cb HBq.out c0_7))
                go_ret
                exact ⟨ret_bool (by rw [HE.out, HCB.out, decide_eq_true hver, decide_eq_true h16]; rfl), bl_from Hw.out HBq.out⟩
              · have h16I : (16 : Int) < l.length := by omega
                go_wp2_with (first | (go_at_call 70; refine (key_calls _ _ _ _ (by omega) (by omega) (by omega)).mono ?_; rintro e w' ⟨rfl, hb⟩; rw [HKO.out]; have HBq := Lib.hid (bl_next HBr.out hb); clear hb; have k0_0 := cb HBq.out c0_0; have k0_1 := cb HBq.out c0_1; have k0_2 := cb HBq.out c0_2; have k0_3 := cb HBq.out c0_3; have k0_4 := cb HBq.out c0_4; have k0_5 := cb HBq.out c0_5; have k0_6 := cb HBq.out c0_6; have k0_7 := cb HBq.out c0_7) | (go_at_call 89; refine (right_calls _ _ (by omega)).mono ?_; rintro e w' ⟨rfl, hb⟩; rw [HRC.out]; have HBr := HBq; have HBq := Lib.hid (bl_next HBr.out hb); clear hb; have k0_0 := cb HBq.out c0_0; have k0_1 := cb HBq.out c0_1; have k0_2 := cb HBq.out c0_2; have k0_3 := cb HBq.out c0_3; have k0_4 := cb HBq.out c0_4; have k0_5 := cb HBq.out c0_5; have k0_6 := cb HBq.out c0_6; have k0_7 := cb HBq.out c0_7))
                go_ret
                exact ⟨ret_bool (by rw [HE.out, HCB.out, decide_eq_true hver, decide_eq_false (p := l.length ≤ 16) (by omega)]; simp; omega), bl_from Hw.out HBq.out⟩
        · have hverI : ver < 1 := by omega
          go_wp2_with (go_at_call 70; refine (key_calls _ _ _ _ (by omega) (by omega) (by omega)).mono ?_; rintro e w' ⟨rfl, hb⟩; rw [HKO.out]; have HBq := Lib.hid (bl_next HBr.out hb); clear hb; have k0_0 := cb HBq.out c0_0; have k0_1 := cb HBq.out c0_1; have k0_2 := cb HBq.out c0_2; have k0_3 := cb HBq.out c0_3; have k0_4 := cb HBq.out c0_4; have k0_5 := cb HBq.out c0_5; have k0_6 := cb HBq.out c0_6; have k0_7 := cb HBq.out c0_7)
          go_ret
          exact ⟨ret_bool (by rw [HE.out, decide_eq_false (p := 1 ≤ ver) (by omega)]; simp), bl_from Hw.out HBq.out⟩
end Go.Proofs.Ythhfcambdmdgfaa

import Derived.Test.YthhfcambdmdgfaaAmap
import Derived.Test.YthhfcambdmdgfaaTra
import Derived.Test.YthhfcambdmdgfaaLb1
import Derived.Test.YthhfcambdmdgfaaSli
import Derived.Test.YthhfcambdmdgfaaSeq
import Derived.Test.YthhfcambdmdgfaaSeqM
import Derived.Test.YthhfcambdmdgfaaStr0
namespace Go.Proofs.Ythhfcambdmdgfaa
open Go.RowKit Go.Maps
set_option linter.unusedVariables false
set_option linter.unusedSimpArgs false
abbrev Vec := AM ByteArray Int
def risB : List ByteArray → Bool
  | a :: b :: r => ltB a b && risB (b :: r)
  | _ => true
theorem risB_iff : ∀ (l : List ByteArray), risB l = true ↔ l.Pairwise (fun a b => ltB a b = true)
  | [] => ⟨fun _ => List.Pairwise.nil, fun _ => rfl⟩
  | [a] => ⟨fun _ => List.pairwise_singleton _ _, fun _ => rfl⟩
  | a :: b :: r => by
    have ih := risB_iff (b :: r)
    unfold risB
    rw [Bool.and_eq_true, ih, List.pairwise_cons (a := a)]
    constructor
    · rintro ⟨h1, h2⟩
      refine ⟨fun x hx => ?_, h2⟩
      rcases List.mem_cons.1 hx with rfl | hx
      · exact h1
      · exact ltB_trans h1 ((List.pairwise_cons.1 h2).1 x hx)
    · rintro ⟨h1, h2⟩
      exact ⟨h1 b List.mem_cons_self, h2⟩
/-- Rising so far, and one more. -/
theorem risB_snoc : ∀ (l : List ByteArray) (a b : ByteArray), risB (l ++ [a] ++ [b]) = (risB (l ++ [a]) && ltB a b)
  | [], a, b => by simp [risB]
  | [x], a, b => by simp [risB, Bool.and_assoc]
  | x :: y :: r, a, b => by
    have ih := risB_snoc (y :: r) a b
    simp only [List.cons_append, risB] at ih ⊢
    rw [ih, Bool.and_assoc]
theorem ris_take (v : Vec) {k : Nat} (h : k + 1 < v.length) : risB (keysA (v.take (k + 2))) = (risB (keysA (v.take (k + 1))) && ltB (v[k]'(by omega)).1 (v[k + 1]'h).1) := by
  have e1 : v.take (k + 1) = v.take k ++ [v[k]'(by omega)] := List.take_succ_eq_append_getElem (by omega)
  have e2 : v.take (k + 2) = v.take k ++ [v[k]'(by omega)] ++ [v[k + 1]'h] := by rw [← e1]; exact List.take_succ_eq_append_getElem h
  rw [e1, e2]
  have := risB_snoc (keysA (v.take k)) (v[k]'(by omega)).1 (v[k + 1]'h).1
  simp only [keysA, List.map_append, List.map_cons, List.map_nil] at this ⊢
  exact this
abbrev Res := List (ByteArray × Int)
def encR (p : ByteArray × Int) : List Value := [.string p.1, .int .i64 p.2]
def resC (l : Res) : List Value := l.flatMap encR
theorem resC_len (l : Res) : (resC l).length = l.length * 2 := by
  induction l with
  | nil => rfl
  | cons p r ih => simp only [resC, List.flatMap_cons, List.length_append, List.length_cons] at ih ⊢; rw [ih]; simp [encR]; omega
theorem resC_get : ∀ (l : Res) (k : Nat) (hk : k < l.length) (j : Nat), j < 2 → (resC l)[k * 2 + j]? = (encR (l[k]'hk))[j]?
  | p :: r, 0, _, j, hj => by
    show (encR p ++ resC r)[0 * 2 + j]? = (encR p)[j]?
    rw [Nat.zero_mul, Nat.zero_add, List.getElem?_append_left (by simp [encR]; exact hj)]
  | p :: r, k + 1, hk, j, hj => by
    show (encR p ++ resC r)[(k + 1) * 2 + j]? = _
    have hl : (encR p).length = 2 := rfl
    rw [List.getElem?_append_right (by rw [hl]; omega), hl, show (k + 1) * 2 + j - 2 = k * 2 + j by omega]
    exact resC_get r k (by simpa using hk) j hj
theorem resC_one (l : Res) : ∀ u ∈ resC l, u.oneCell' = true := by
  intro u hu; unfold resC at hu; obtain ⟨p, _, h⟩ := List.mem_flatMap.1 hu
  simp only [encR, List.mem_cons, List.not_mem_nil, or_false] at h
  rcases h with rfl | rfl <;> rfl
def in64 (n : Int) : Prop := -9223372036854775808 ≤ n ∧ n ≤ 9223372036854775807
def ResS (w : World) (x : Value) (l : Res) : Prop := SliS w x 2 l.length (resC l) ∧ ∀ p ∈ l, in64 p.2
section
variable {w w' : World} {x : Value} {l : Res}
theorem ResS.form (h : ResS w x l) : ∃ A c, x = .slice A l.length c := h.1.form
theorem ResS.below (h : ResS w x l) (hb : Below w.heap.size w w') : ResS w' x l := ⟨h.1.below hb, h.2⟩
theorem ResS.at' (h : ResS w x l) {k : Nat} (hk : k < l.length) : ∃ b off c, x = .slice (some ⟨b, off, none⟩) l.length c ∧ w.cell? ⟨b, off + k * 2, none⟩ = some (.string (l[k]'hk).1) ∧ w.cell? ⟨b, off + k * 2 + 1, none⟩ = some (.int .i64 (l[k]'hk).2) ∧ in64 (l[k]'hk).2 := by
  obtain ⟨b, off, c, hx, _, hc⟩ := h.1.at' hk
  refine ⟨b, off, c, hx, hc 0 (by decide) _ (by rw [resC_get l k hk 0 (by decide)]; rfl), hc 1 (by decide) _ (by rw [resC_get l k hk 1 (by decide)]; rfl), h.2 _ (List.getElem_mem hk)⟩
end
theorem res_ne {p r : ByteArray × Int} (h : ¬ p = r) : (decide (p.1 = r.1) && decide (p.2 = r.2)) = false := by
  rw [Bool.and_eq_false_iff]
  by_cases h1 : p.1 = r.1
  · have h2 : p.2 ≠ r.2 := fun e => h (Prod.ext h1 e)
    simp [h2]
  · simp [h1]
theorem resIf (s s' : ByteArray) (n n' : Int) (w : World) {q : Bool} (hq : (decide (s = s') && decide (n = n')) = q) : (if s.toList = s'.toList then if n = n' then Result.ok (Next.value (Value.bool false)) w else Result.ok (Next.value (Value.bool true)) w else Result.ok (Next.value (Value.bool true)) w)
    = .ok (.value (.bool !q)) w := by
  rw [← hq]
  simp only [ba_eq]
  by_cases h1 : s = s' <;> by_cases h2 : n = n' <;> simp [h1, h2]
set_option maxRecDepth 100000 in
set_option maxHeartbeats 8000000 in
theorem rres_calls (w : World) {u v : Value} {l m : Res} (hu : ResS w u l) (hv : ResS w v m) (hl : l.length ≤ 1000000) (hm : m.length ≤ 1000000) :
    Calls Try.prog 88 #[u, v] w fun e w' => e = .returned (.bool (decide (l = m))) ∧ Below w.heap.size w w' := by
  have hB := Below.refl w.heap.size w
  have HU := Lib.hid hu
  have HV := Lib.hid hv
  obtain ⟨au, cu, rfl⟩ := hu.form
  obtain ⟨av, cv, rfl⟩ := hv.form
  clear hu hv
  by_cases hlen : l.length = m.length
  · have HL := Lib.hid hlen
    rw [hlen] at hl HU ⊢
    have HLM := Lib.hid (show ∀ j (h1 : j < m.length), j < l.length from fun j h => by omega)
    clear hlen
    go_enter Try.func88, Try.ntmps88
    go_wp2_with fail
    go_loopw [5] (fun i wr => ∃ k : Nat, i = .int .i64 k ∧ k ≤ m.length ∧ Hid (l.take k = m.take k) ∧ Below w.heap.size w wr) (fun i _ => m.length - (intOf i).toNat)
    case atStart => exact ⟨0, rfl, Nat.zero_le _, Lib.hid rfl, hB⟩
    case round =>
      clear hB
      obtain ⟨k, rfl, hk, HT, hB⟩ := hrel
      by_cases hkl : k < m.length
      · have hkI : (k : Int) < m.length := by omega
        have hk2 := HLM.out k hkl
        obtain ⟨b1, o1, d1, he1, q0, q1, hq⟩ := HU.out.at' hk2
        obtain ⟨b2, o2, d2, he2, r0, r1, hr⟩ := HV.out.at' hkl
        rw [HL.out] at he1
        cases he1
        cases he2
        clear hq hr
        have q0 := cb hB q0; have r0 := cb hB r0
        have q1 := cb hB q1; have r1 := cb hB r1
        have HX := Lib.hid (List.take_succ_eq_append_getElem hk2)
        have HY := Lib.hid (List.take_succ_eq_append_getElem hkl)
        have HNE := Lib.hid (show l[k]'hk2 ≠ m[k]'hkl → l ≠ m from fun h e => h (by subst e; rfl))
        obtain ⟨p, hp⟩ : ∃ p, l[k]'hk2 = p := ⟨_, rfl⟩
        obtain ⟨r, hr⟩ : ∃ r, m[k]'hkl = r := ⟨_, rfl⟩
        rw [hp] at q0 q1 HX HNE
        rw [hr] at r0 r1 HY HNE
        clear hp hr
        obtain ⟨V, rfl⟩ : ∃ V : World, V = wr := ⟨_, rfl⟩
        have HB0 := Lib.hid hB
        clear hB
        have hB := Below.refl V.heap.size V
        go_upto_region 6 with fail
        by_cases hpr : p = r
        · have HZ : Hid ((decide (p.1 = r.1) && decide (p.2 = r.2)) = true) := Lib.hid (by rw [hpr]; simp)
          have HPR := Lib.hid hpr
          clear hpr
          have hB := hB.drew
          refine region_seq (fun w' => Below V.heap.size V w') [(0, true), (1, true), (2, true), (3, true), (4, true), (5, true), (6, true), (7, true), (8, true)] (by kernel_rfl) (by kernel_rfl) (fun _ _ _ _ h => h) hB ?_
          try generalize World.drew _ = wS at hB ⊢
          refine seq_take (v := ?_) (a' := ?_) (some 17) rfl rfl (by rfl) ?_ ?_ ?_
          rotate_left; rotate_left
          · intro w' hS; go_simp; with_reducible rfl
          · simp only [Act.put, List.setIfInBounds_toArray, List.set_cons_zero, List.set_cons_succ]; rfl
          refine seq_take (v := ?_) (a' := ?_) (some 18) rfl rfl (by rfl) ?_ ?_ ?_
          rotate_left; rotate_left
          · intro w' hS; go_simp; with_reducible rfl
          · simp only [Act.put, List.setIfInBounds_toArray, List.set_cons_zero, List.set_cons_succ]; rfl
          refine seq_take (v := ?_) (a' := ?_) (some 19) rfl rfl (by rfl) ?_ ?_ ?_
          rotate_left; rotate_left
          · intro w' hS; go_simp; with_reducible rfl
          · simp only [Act.put, List.setIfInBounds_toArray, List.set_cons_zero, List.set_cons_succ]; rfl
          refine seq_take (v := ?_) (a' := ?_) (some 20) rfl rfl (by rfl) ?_ ?_ ?_
          rotate_left; rotate_left
          · intro w' hS; have p0 := cb hS q0; have s0 := cb hS r0; have p1 := cb hS q1; have s1 := cb hS r1; go_simp; with_reducible rfl
          · simp only [Act.put, List.setIfInBounds_toArray, List.set_cons_zero, List.set_cons_succ]; rfl
          refine seq_take (v := ?_) (a' := ?_) (some 21) rfl rfl (by rfl) ?_ ?_ ?_
          rotate_left; rotate_left
          · intro w' hS; go_simp; with_reducible rfl
          · simp only [Act.put, List.setIfInBounds_toArray, List.set_cons_zero, List.set_cons_succ]; rfl
          refine seq_take (v := ?_) (a' := ?_) (some 22) rfl rfl (by rfl) ?_ ?_ ?_
          rotate_left; rotate_left
          · intro w' hS; go_simp; with_reducible rfl
          · simp only [Act.put, List.setIfInBounds_toArray, List.set_cons_zero, List.set_cons_succ]; rfl
          refine seq_take (v := ?_) (a' := ?_) (some 23) rfl rfl (by rfl) ?_ ?_ ?_
          rotate_left; rotate_left
          · intro w' hS; go_simp; with_reducible rfl
          · simp only [Act.put, List.setIfInBounds_toArray, List.set_cons_zero, List.set_cons_succ]; rfl
          refine seq_take (v := ?_) (a' := ?_) (some 24) rfl rfl (by rfl) ?_ ?_ ?_
          rotate_left; rotate_left
          · intro w' hS; have p0 := cb hS q0; have s0 := cb hS r0; have p1 := cb hS q1; have s1 := cb hS r1; go_simp; with_reducible rfl
          · simp only [Act.put, List.setIfInBounds_toArray, List.set_cons_zero, List.set_cons_succ]; rfl
          refine seq_take (v := ?_) (a' := ?_) (some 25) rfl rfl (by rfl) ?_ ?_ ?_
          rotate_left; rotate_left
          · intro w' hS; (first | (go_simp; with_reducible rfl) | (go_simp; exact resIf _ _ _ _ _ HZ.out))
          · simp only [Act.put, List.setIfInBounds_toArray, List.set_cons_zero, List.set_cons_succ]; rfl
          refine seq_done ?_
          go_wp2_with fail
          go_roundw
          case rel => exact ⟨k + 1, by simp, by omega, Lib.hid (by rw [HX.out, HY.out, HT.out, HPR.out]), bl_next HB0.out hB⟩
          case measure => simp [intOf]; omega
        · have HZ : Hid ((decide (p.1 = r.1) && decide (p.2 = r.2)) = false) := Lib.hid (res_ne hpr)
          have HPR := Lib.hid (HNE.out hpr)
          clear hpr
          have hB := hB.drew
          refine region_seq (fun w' => Below V.heap.size V w') [(0, true), (1, true), (2, true), (3, true), (4, true), (5, true), (6, true), (7, true), (8, true)] (by kernel_rfl) (by kernel_rfl) (fun _ _ _ _ h => h) hB ?_
          try generalize World.drew _ = wS at hB ⊢
          refine seq_take (v := ?_) (a' := ?_) (some 17) rfl rfl (by rfl) ?_ ?_ ?_
          rotate_left; rotate_left
          · intro w' hS; go_simp; with_reducible rfl
          · simp only [Act.put, List.setIfInBounds_toArray, List.set_cons_zero, List.set_cons_succ]; rfl
          refine seq_take (v := ?_) (a' := ?_) (some 18) rfl rfl (by rfl) ?_ ?_ ?_
          rotate_left; rotate_left
          · intro w' hS; go_simp; with_reducible rfl
          · simp only [Act.put, List.setIfInBounds_toArray, List.set_cons_zero, List.set_cons_succ]; rfl
          refine seq_take (v := ?_) (a' := ?_) (some 19) rfl rfl (by rfl) ?_ ?_ ?_
          rotate_left; rotate_left
          · intro w' hS; go_simp; with_reducible rfl
          · simp only [Act.put, List.setIfInBounds_toArray, List.set_cons_zero, List.set_cons_succ]; rfl
          refine seq_take (v := ?_) (a' := ?_) (some 20) rfl rfl (by rfl) ?_ ?_ ?_
          rotate_left; rotate_left
          · intro w' hS; have p0 := cb hS q0; have s0 := cb hS r0; have p1 := cb hS q1; have s1 := cb hS r1; go_simp; with_reducible rfl
          · simp only [Act.put, List.setIfInBounds_toArray, List.set_cons_zero, List.set_cons_succ]; rfl
          refine seq_take (v := ?_) (a' := ?_) (some 21) rfl rfl (by rfl) ?_ ?_ ?_
          rotate_left; rotate_left
          · intro w' hS; go_simp; with_reducible rfl
          · simp only [Act.put, List.setIfInBounds_toArray, List.set_cons_zero, List.set_cons_succ]; rfl
          refine seq_take (v := ?_) (a' := ?_) (some 22) rfl rfl (by rfl) ?_ ?_ ?_
          rotate_left; rotate_left
          · intro w' hS; go_simp; with_reducible rfl
          · simp only [Act.put, List.setIfInBounds_toArray, List.set_cons_zero, List.set_cons_succ]; rfl
          refine seq_take (v := ?_) (a' := ?_) (some 23) rfl rfl (by rfl) ?_ ?_ ?_
          rotate_left; rotate_left
          · intro w' hS; go_simp; with_reducible rfl
          · simp only [Act.put, List.setIfInBounds_toArray, List.set_cons_zero, List.set_cons_succ]; rfl
          refine seq_take (v := ?_) (a' := ?_) (some 24) rfl rfl (by rfl) ?_ ?_ ?_
          rotate_left; rotate_left
          · intro w' hS; have p0 := cb hS q0; have s0 := cb hS r0; have p1 := cb hS q1; have s1 := cb hS r1; go_simp; with_reducible rfl
          · simp only [Act.put, List.setIfInBounds_toArray, List.set_cons_zero, List.set_cons_succ]; rfl
          refine seq_take (v := ?_) (a' := ?_) (some 25) rfl rfl (by rfl) ?_ ?_ ?_
          rotate_left; rotate_left
          · intro w' hS; (first | (go_simp; with_reducible rfl) | (go_simp; exact resIf _ _ _ _ _ HZ.out))
          · simp only [Act.put, List.setIfInBounds_toArray, List.set_cons_zero, List.set_cons_succ]; rfl
          refine seq_done ?_
          go_wp2_with fail
          go_ret
          exact ⟨ret_bool (by rw [decide_eq_false HPR.out]), bl_next HB0.out hB⟩
      · obtain rfl : k = m.length := by omega
        go_wp2_with fail
        go_ret
        exact ⟨ret_bool (by rw [decide_eq_true]; have := HT.out; rw [List.take_length, ← HL.out, List.take_length] at this; exact this), hB⟩
  · have hlm : ¬ (l.length = m.length) := hlen
    have HNE := Lib.hid (show l ≠ m from fun e => hlen (by rw [e]))
    clear hlen
    go_enter Try.func88, Try.ntmps88
    go_wp2_with fail
    go_ret
    exact ⟨ret_bool (by rw [decide_eq_false HNE.out]), hB⟩
theorem rightR_calls (s : ByteArray) (w : World) (hs : s.size ≤ 1073741824000) :
    Calls Try.prog 86 #[.string s] w fun e w' => e = .returned (.bool (rightB s)) ∧ Below w.heap.size w w' :=
  (refRight_calls s w hs).mono fun e w' h => ⟨h.1, by obtain ⟨n, rfl⟩ := h.2; exact bl_dN (Below.refl _ _) n⟩
theorem beforeB_calls (a b : ByteArray) (w : World) (ha : a.size ≤ 1073741824000) (hb : b.size ≤ 1073741824000) :
    Calls Try.prog 81 #[.string a, .string b] w fun e w' => e = .returned (.bool (ltB a b)) ∧ Below w.heap.size w w' :=
  (before_calls a b w ha hb).mono fun e w' h => ⟨h.1, by obtain ⟨n, rfl⟩ := h.2; exact bl_dN (Below.refl _ _) n⟩
set_option maxRecDepth 100000 in
set_option maxHeartbeats 8000000 in
theorem req_calls (w : World) {u v : Value} {l m : Res} (hu : ResS w u l) (hv : ResS w v m) (hl : l.length ≤ 1000000) (hm : m.length ≤ 1000000) :
    Calls Try.prog 106 #[u, v] w fun e w' => e = .returned (.bool (decide (l = m))) ∧ Below w.heap.size w w' := by
  have hB := Below.refl w.heap.size w
  have HU := Lib.hid hu
  have HV := Lib.hid hv
  obtain ⟨au, cu, rfl⟩ := hu.form
  obtain ⟨av, cv, rfl⟩ := hv.form
  clear hu hv
  by_cases hlen : l.length = m.length
  · have HL := Lib.hid hlen
    rw [hlen] at hl HU ⊢
    have HLM := Lib.hid (show ∀ j (h1 : j < m.length), j < l.length from fun j h => by omega)
    clear hlen
    go_enter Try.func106, Try.ntmps106
    go_wp2_with fail
    go_loopw [13] (fun i wr => ∃ k : Nat, i = .int .i64 k ∧ k ≤ m.length ∧ Hid (l.take k = m.take k) ∧ Below w.heap.size w wr) (fun i _ => m.length - (intOf i).toNat)
    case atStart => exact ⟨0, rfl, Nat.zero_le _, Lib.hid rfl, hB⟩
    case round =>
      clear hB
      obtain ⟨k, rfl, hk, HT, hB⟩ := hrel
      by_cases hkl : k < m.length
      · have hkI : (k : Int) < m.length := by omega
        have hk2 := HLM.out k hkl
        obtain ⟨b1, o1, d1, he1, q0, q1, hq⟩ := HU.out.at' hk2
        obtain ⟨b2, o2, d2, he2, r0, r1, hr⟩ := HV.out.at' hkl
        rw [HL.out] at he1
        cases he1
        cases he2
        clear hq hr
        have q0 := cb hB q0; have r0 := cb hB r0
        have q1 := cb hB q1; have r1 := cb hB r1
        have HX := Lib.hid (List.take_succ_eq_append_getElem hk2)
        have HY := Lib.hid (List.take_succ_eq_append_getElem hkl)
        have HNE := Lib.hid (show l[k]'hk2 ≠ m[k]'hkl → l ≠ m from fun h e => h (by subst e; rfl))
        obtain ⟨p, hp⟩ : ∃ p, l[k]'hk2 = p := ⟨_, rfl⟩
        obtain ⟨r, hr⟩ : ∃ r, m[k]'hkl = r := ⟨_, rfl⟩
        rw [hp] at q0 q1 HX HNE
        rw [hr] at r0 r1 HY HNE
        clear hp hr
        obtain ⟨V, rfl⟩ : ∃ V : World, V = wr := ⟨_, rfl⟩
        have HB0 := Lib.hid hB
        clear hB
        have hB := Below.refl V.heap.size V
        go_upto_region 6 with fail
        by_cases hpr : p = r
        · have HZ : Hid ((decide (p.1 = r.1) && decide (p.2 = r.2)) = true) := Lib.hid (by rw [hpr]; simp)
          have HPR := Lib.hid hpr
          clear hpr
          have hB := hB.drew
          refine region_seq (fun w' => Below V.heap.size V w') [(0, true), (1, true), (2, true), (3, true), (4, true), (5, true), (6, true), (7, true), (8, true)] (by kernel_rfl) (by kernel_rfl) (fun _ _ _ _ h => h) hB ?_
          try generalize World.drew _ = wS at hB ⊢
          refine seq_take (v := ?_) (a' := ?_) (some 16) rfl rfl (by rfl) ?_ ?_ ?_
          rotate_left; rotate_left
          · intro w' hS; go_simp; with_reducible rfl
          · simp only [Act.put, List.setIfInBounds_toArray, List.set_cons_zero, List.set_cons_succ]; rfl
          refine seq_take (v := ?_) (a' := ?_) (some 17) rfl rfl (by rfl) ?_ ?_ ?_
          rotate_left; rotate_left
          · intro w' hS; go_simp; with_reducible rfl
          · simp only [Act.put, List.setIfInBounds_toArray, List.set_cons_zero, List.set_cons_succ]; rfl
          refine seq_take (v := ?_) (a' := ?_) (some 18) rfl rfl (by rfl) ?_ ?_ ?_
          rotate_left; rotate_left
          · intro w' hS; go_simp; with_reducible rfl
          · simp only [Act.put, List.setIfInBounds_toArray, List.set_cons_zero, List.set_cons_succ]; rfl
          refine seq_take (v := ?_) (a' := ?_) (some 19) rfl rfl (by rfl) ?_ ?_ ?_
          rotate_left; rotate_left
          · intro w' hS; have p0 := cb hS q0; have s0 := cb hS r0; have p1 := cb hS q1; have s1 := cb hS r1; go_simp; with_reducible rfl
          · simp only [Act.put, List.setIfInBounds_toArray, List.set_cons_zero, List.set_cons_succ]; rfl
          refine seq_take (v := ?_) (a' := ?_) (some 20) rfl rfl (by rfl) ?_ ?_ ?_
          rotate_left; rotate_left
          · intro w' hS; go_simp; with_reducible rfl
          · simp only [Act.put, List.setIfInBounds_toArray, List.set_cons_zero, List.set_cons_succ]; rfl
          refine seq_take (v := ?_) (a' := ?_) (some 21) rfl rfl (by rfl) ?_ ?_ ?_
          rotate_left; rotate_left
          · intro w' hS; go_simp; with_reducible rfl
          · simp only [Act.put, List.setIfInBounds_toArray, List.set_cons_zero, List.set_cons_succ]; rfl
          refine seq_take (v := ?_) (a' := ?_) (some 22) rfl rfl (by rfl) ?_ ?_ ?_
          rotate_left; rotate_left
          · intro w' hS; go_simp; with_reducible rfl
          · simp only [Act.put, List.setIfInBounds_toArray, List.set_cons_zero, List.set_cons_succ]; rfl
          refine seq_take (v := ?_) (a' := ?_) (some 23) rfl rfl (by rfl) ?_ ?_ ?_
          rotate_left; rotate_left
          · intro w' hS; have p0 := cb hS q0; have s0 := cb hS r0; have p1 := cb hS q1; have s1 := cb hS r1; go_simp; with_reducible rfl
          · simp only [Act.put, List.setIfInBounds_toArray, List.set_cons_zero, List.set_cons_succ]; rfl
          refine seq_take (v := ?_) (a' := ?_) (some 24) rfl rfl (by rfl) ?_ ?_ ?_
          rotate_left; rotate_left
          · intro w' hS; (first | (go_simp; with_reducible rfl) | (go_simp; exact resIf _ _ _ _ _ HZ.out))
          · simp only [Act.put, List.setIfInBounds_toArray, List.set_cons_zero, List.set_cons_succ]; rfl
          refine seq_done ?_
          go_wp2_with fail
          go_roundw
          case rel => exact ⟨k + 1, by simp, by omega, Lib.hid (by rw [HX.out, HY.out, HT.out, HPR.out]), bl_next HB0.out hB⟩
          case measure => simp [intOf]; omega
        · have HZ : Hid ((decide (p.1 = r.1) && decide (p.2 = r.2)) = false) := Lib.hid (res_ne hpr)
          have HPR := Lib.hid (HNE.out hpr)
          clear hpr
          have hB := hB.drew
          refine region_seq (fun w' => Below V.heap.size V w') [(0, true), (1, true), (2, true), (3, true), (4, true), (5, true), (6, true), (7, true), (8, true)] (by kernel_rfl) (by kernel_rfl) (fun _ _ _ _ h => h) hB ?_
          try generalize World.drew _ = wS at hB ⊢
          refine seq_take (v := ?_) (a' := ?_) (some 16) rfl rfl (by rfl) ?_ ?_ ?_
          rotate_left; rotate_left
          · intro w' hS; go_simp; with_reducible rfl
          · simp only [Act.put, List.setIfInBounds_toArray, List.set_cons_zero, List.set_cons_succ]; rfl
          refine seq_take (v := ?_) (a' := ?_) (some 17) rfl rfl (by rfl) ?_ ?_ ?_
          rotate_left; rotate_left
          · intro w' hS; go_simp; with_reducible rfl
          · simp only [Act.put, List.setIfInBounds_toArray, List.set_cons_zero, List.set_cons_succ]; rfl
          refine seq_take (v := ?_) (a' := ?_) (some 18) rfl rfl (by rfl) ?_ ?_ ?_
          rotate_left; rotate_left
          · intro w' hS; go_simp; with_reducible rfl
          · simp only [Act.put, List.setIfInBounds_toArray, List.set_cons_zero, List.set_cons_succ]; rfl
          refine seq_take (v := ?_) (a' := ?_) (some 19) rfl rfl (by rfl) ?_ ?_ ?_
          rotate_left; rotate_left
          · intro w' hS; have p0 := cb hS q0; have s0 := cb hS r0; have p1 := cb hS q1; have s1 := cb hS r1; go_simp; with_reducible rfl
          · simp only [Act.put, List.setIfInBounds_toArray, List.set_cons_zero, List.set_cons_succ]; rfl
          refine seq_take (v := ?_) (a' := ?_) (some 20) rfl rfl (by rfl) ?_ ?_ ?_
          rotate_left; rotate_left
          · intro w' hS; go_simp; with_reducible rfl
          · simp only [Act.put, List.setIfInBounds_toArray, List.set_cons_zero, List.set_cons_succ]; rfl
          refine seq_take (v := ?_) (a' := ?_) (some 21) rfl rfl (by rfl) ?_ ?_ ?_
          rotate_left; rotate_left
          · intro w' hS; go_simp; with_reducible rfl
          · simp only [Act.put, List.setIfInBounds_toArray, List.set_cons_zero, List.set_cons_succ]; rfl
          refine seq_take (v := ?_) (a' := ?_) (some 22) rfl rfl (by rfl) ?_ ?_ ?_
          rotate_left; rotate_left
          · intro w' hS; go_simp; with_reducible rfl
          · simp only [Act.put, List.setIfInBounds_toArray, List.set_cons_zero, List.set_cons_succ]; rfl
          refine seq_take (v := ?_) (a' := ?_) (some 23) rfl rfl (by rfl) ?_ ?_ ?_
          rotate_left; rotate_left
          · intro w' hS; have p0 := cb hS q0; have s0 := cb hS r0; have p1 := cb hS q1; have s1 := cb hS r1; go_simp; with_reducible rfl
          · simp only [Act.put, List.setIfInBounds_toArray, List.set_cons_zero, List.set_cons_succ]; rfl
          refine seq_take (v := ?_) (a' := ?_) (some 24) rfl rfl (by rfl) ?_ ?_ ?_
          rotate_left; rotate_left
          · intro w' hS; (first | (go_simp; with_reducible rfl) | (go_simp; exact resIf _ _ _ _ _ HZ.out))
          · simp only [Act.put, List.setIfInBounds_toArray, List.set_cons_zero, List.set_cons_succ]; rfl
          refine seq_done ?_
          go_wp2_with fail
          go_ret
          exact ⟨ret_bool (by rw [decide_eq_false HPR.out]), bl_next HB0.out hB⟩
      · obtain rfl : k = m.length := by omega
        go_wp2_with fail
        go_ret
        exact ⟨ret_bool (by rw [decide_eq_true]; have := HT.out; rw [List.take_length, ← HL.out, List.take_length] at this; exact this), hB⟩
  · have hlm : ¬ (l.length = m.length) := hlen
    have HNE := Lib.hid (show l ≠ m from fun e => hlen (by rw [e]))
    clear hlen
    go_enter Try.func106, Try.ntmps106
    go_wp2_with fail
    go_ret
    exact ⟨ret_bool (by rw [decide_eq_false HNE.out]), hB⟩
end Go.Proofs.Ythhfcambdmdgfaa

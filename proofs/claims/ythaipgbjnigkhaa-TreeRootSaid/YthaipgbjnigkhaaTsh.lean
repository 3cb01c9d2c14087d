import Derived.Test.YthaipgbjnigkhaaTsg
namespace Go.Proofs.Ythaipgbjnigkhaa
open Go.RowKit Go.Shelf Go.Maps
set_option linter.unusedVariables false
set_option linter.unusedSimpArgs false
set_option maxRecDepth 100000 in
set_option maxHeartbeats 8000000 in
theorem treeRoot_law (w : World) (A : Option Addr) (cap : Nat) (xs : List ActT) (h : ActsT w A xs) :
    Calls Try.prog 4 #[.slice A xs.length cap] w fun e w' => e = .returned (.bool true) ∧ Below w.heap.size w w' := by
  have hB := Below.refl w.heap.size w
  have H := Lib.hid h
  clear h
  cases hf : fitsT xs with
  | false =>
    have HF := Lib.hid hf
    clear hf
    go_enter Try.func4, Try.ntmps4
    go_wp2_with (first | (go_at_call 10; refine (fits11_calls _ _ _ _ H.out).mono ?_; rintro e w' ⟨rfl, hb⟩; rw [HF.out]; have hB := bl_next hB hb; clear hb) | (go_at_call 11; refine (alive11_calls _).mono ?_; rintro e w' ⟨rfl, hb⟩; have hB := bl_next hB hb; clear hb))
    go_ret
    exact ⟨rfl, hB⟩
  | true =>
    obtain ⟨hl, hfit⟩ := fitsT_spec hf
    have HF := Lib.hid hf
    have HFIT := Lib.hid hfit
    clear hf hfit
    go_enter Try.func4, Try.ntmps4
    go_wp2_with (first | (go_at_call 10; refine (fits11_calls _ _ _ _ H.out).mono ?_; rintro e w' ⟨rfl, hb⟩; rw [HF.out]; have hB := bl_next hB hb; clear hb) | (go_at_call 12; refine (new_ts w _ hB).mono ?_; rintro e w1 ⟨tp, mb, rfl, S, hb, -⟩; have S0 := Lib.hid S; clear S hb hB))
    go_loopw [5] (fun i wr => ∃ (k : Nat) (N : Nodes), i = .int .i64 k ∧ k ≤ xs.length ∧ N.length ≤ 200 ∧ Hid (Good11 N) ∧ Hid (TS w wr tp mb N)) (fun i _ => xs.length - (intOf i).toNat)
    case atStart => exact ⟨0, _, rfl, Nat.zero_le _, by decide, Lib.hid good_begin, S0⟩
    case round =>
      obtain ⟨k, N, rfl, hk, hN, G, S⟩ := hrel
      by_cases hkl : k < xs.length
      · have hkI : (k : Int) < xs.length := by omega
        obtain ⟨r, hr⟩ : ∃ r, doT N (xs[k]'hkl) = r := ⟨_, rfl⟩
        obtain ⟨r, M⟩ := r
        have G2 := good_doT G.out (xs[k]'hkl)
        rw [hr] at G2
        have hM := G2.few
        have G3 := Lib.hid G2
        obtain ⟨b, off, rfl, hbA, c0, c1, c2, q0, q1⟩ := H.out.at' k hkl
        obtain ⟨hs1, hs2⟩ := HFIT.out k hkl
        have HR := Lib.hid hr
        clear G2 hr
        generalize xs[k]'hkl = a at *
        have hsz1 : a.n.size ≤ 1000 := by omega
        have hsz2 : a.o.size ≤ 1000 := by omega
        have c0 := cb S.out.below c0; have c1 := cb S.out.below c1; have c2 := cb S.out.below c2
        go_wp2_with fail
        refine (doT_tk S.out G.out a q0 q1 hsz1 hsz2 r M HR.out).mono ?_
        rintro e w4 ⟨rfl, S', hkk⟩
        have S4 := Lib.hid S'
        clear S S' hkk c0 c1 c2
        go_wp2_with fail
        go_roundw
        case rel => exact ⟨k + 1, M, by simp, by omega, hM, G3, S4⟩
        case measure => simp [intOf]; omega
      · obtain rfl : k = xs.length := by omega
        clear hk hkl
        go_wp2_with fail
        refine (all_to S.out G.out _ rfl).mono ?_
        rintro e w2 ⟨A1, k1, rfl, T, S', hb⟩
        rw [allN_length] at T
        rw [allN_length]
        have T2 := Lib.hid T; have S2 := Lib.hid S'
        clear S T S' hb
        go_wp2_with fail
        go_loopw [7] (fun i wr => ∃ (k : Nat), i = .int .i64 k ∧ k ≤ N.length ∧ Hid (StrT wr (.slice A1 N.length k1) (allN N)) ∧ Hid (TS w wr tp mb N)) (fun i _ => N.length - (intOf i).toNat)
        case atStart => exact ⟨0, rfl, Nat.zero_le _, T2, S2⟩
        case round =>
          clear T2 S2
          obtain ⟨k, rfl, hk, T, S⟩ := hrel
          by_cases hkl : k < N.length
          · have hkI : (k : Int) < N.length := by omega
            have hka : k < (allN N).length := by rw [allN_length]; exact hkl
            obtain ⟨x, hx⟩ : ∃ x, (allN N)[k]'hka = x := ⟨_, rfl⟩
            have hxN : hasN N x = true := mem_all.1 (hx ▸ List.getElem_mem hka)
            obtain ⟨m, hm⟩ : ∃ m, (pathT N x).length = m + 1 := ⟨(pathT N x).length - 1, by rw [path_pos G.out hxN]; simp⟩
            have hm8 : m + 1 ≤ 8 := by rw [← hm]; exact G.out.deep x
            have hxs : x.size ≤ 1000 := by have := good_size G.out hxN; omega
            have hqs : (parN N x).size ≤ 1000 := by have := par_size G.out x; omega
            have HM := Lib.hid hm; have HX := Lib.hid hx; have HXN := Lib.hid hxN
            obtain ⟨q, hq⟩ : ∃ q, parN N x = q := ⟨_, rfl⟩
            rw [hq] at hqs
            have HQ := Lib.hid hq
            clear hm hx hxN hq
            obtain ⟨b2, o2, d2, he2, q2⟩ := T.out.strS.at' hka
            rw [allN_length] at he2
            cases he2
            rw [HX.out] at q2
            go_wp2_with fail
            refine (path_to S.out G.out x hxs _ rfl).mono ?_
            rintro e w3 ⟨A2, k2, rfl, P', S', hb⟩
            rw [HM.out] at P' ⊢
            have T3 := Lib.hid (T.out.below hb); have P3 := Lib.hid P'; have S3 := Lib.hid S'
            clear S T P' S' hb q2
            obtain ⟨V, rfl⟩ : ∃ V : World, V = w3 := ⟨_, rfl⟩
            have hB := Below.refl V.heap.size V
            obtain ⟨b', o', d', he, q2⟩ := T3.out.strS.at' hka
            rw [allN_length] at he
            cases he
            rw [HX.out] at q2
            obtain ⟨b1, o1, d1, he, r0⟩ := P3.out.strS.at' (j := 0) (by rw [HM.out]; omega)
            rw [HM.out] at he
            cases he
            obtain ⟨b1, o1, d1, he, r1⟩ := P3.out.strS.at' (j := m) (by rw [HM.out]; omega)
            rw [HM.out] at he
            cases he
            rw [path_first G.out HXN.out, Nat.add_zero] at r0
            rw [path_end G.out HXN.out HM.out] at r1
            have ST := Lib.hid (strS_tail P3.out.strS)
            have hcd : m + 1 ≤ k2 := by
              obtain ⟨A', c', he, hc, _⟩ := P3.out.strS
              rw [HM.out] at he hc; cases he; exact hc
            have htl : decide ((pathT N x).tail = pathT N q) = true := decide_eq_true (by rw [path_pos G.out HXN.out, HQ.out]; rfl)
            have HTL := Lib.hid htl
            clear htl
            have t1 : decide ((m : Int) + 1 < 1) = false := by simp; omega
            have t2 : decide ((8 : Int) < (m : Int) + 1) = false := by simp; omega
            have r1 : V.cell? ⟨b1, o1 + m, none⟩ = some (.string ⟨#[114, 111, 111, 116]⟩) := r1
            have ST : Hid (StrS V (.slice (if k2 = 1 then some ⟨b1, o1, none⟩ else some ⟨b1, o1 + 1, none⟩) m (k2 - 1)) (pathT N x).tail) := by
              by_cases e : k2 = 1
              · obtain rfl : m = 0 := by omega
                have h0 : (pathT N x).tail = [] := List.eq_nil_of_length_eq_zero (by rw [List.length_tail, HM.out])
                rw [if_pos e, h0]
                exact Lib.hid ⟨_, _, rfl, Nat.zero_le _, .inl rfl⟩
              · rw [if_neg e]; exact ST
            have hm1I : (1 : Int) ≤ (m : Int) + 1 := by omega
            have hmI : (m : Int) ≤ 7 := by omega
            have hmI2 : (m : Int) < (m : Int) + 1 := by omega
            have hwm : IntKind.i64.wrap (m : Int) = (m : Int) := by rw [IntKind.wrap_i64]; omega
            go_upto_region 14 with fail
            obtain ⟨bb, e1, e2⟩ : ∃ bb, ((m : Int) + 1 == 1) = bb ∧ (x.toList == [114, 111, 111, 116]) = bb := by
              refine ⟨decide (x = rootB), ?_, by rw [← root_list]; exact beq_str x rootB⟩
              rw [Bool.eq_iff_iff, beq_iff_eq, decide_eq_true_eq, ← path_one G.out HXN.out HM.out]; omega
            have E1 := Lib.hid e1; have E2 := Lib.hid e2; have T1 := Lib.hid t1; have T2 := Lib.hid t2
            clear e1 e2 t1 t2
            have hB := hB.drew
            refine region_seq (fun w' => Below V.heap.size V w') [(0, true), (1, true), (2, true), (3, true), (4, true), (5, true), (6, true), (7, true), (8, true), (9, true), (10, true), (11, true), (12, true), (13, true), (14, true), (15, true), (16, true), (17, true), (18, true), (19, true), (20, true), (21, true), (22, true), (23, true), (24, true), (25, true), (26, true), (27, true), (28, true), (29, true), (30, true), (31, true), (32, true), (33, true), (34, true), (35, true), (36, true), (37, true)] (by kernel_rfl) (by kernel_rfl) (fun _ _ _ _ h => h) hB ?_
            try generalize World.drew _ = wS at hB ⊢
            refine seq_take (v := ?_) (a' := ?_) (some 47) rfl rfl (by rfl) ?_ ?_ ?_
            rotate_left; rotate_left
            · intro w' hS; go_simp; with_reducible rfl
            · simp only [Act.put, List.setIfInBounds_toArray, List.set_cons_zero, List.set_cons_succ]; rfl
            refine seq_take (v := ?_) (a' := ?_) (some 48) rfl rfl (by rfl) ?_ ?_ ?_
            rotate_left; rotate_left
            · intro w' hS; go_simp; with_reducible rfl
            · simp only [Act.put, List.setIfInBounds_toArray, List.set_cons_zero, List.set_cons_succ]; rfl
            refine seq_take (v := ?_) (a' := ?_) (some 49) rfl rfl (by rfl) ?_ ?_ ?_
            rotate_left; rotate_left
            · intro w' hS; have t1 := T1.out; have t2 := T2.out; have e1 := E1.out; have e2 := E2.out; go_simp; with_reducible rfl
            · simp only [Act.put, List.setIfInBounds_toArray, List.set_cons_zero, List.set_cons_succ]; rfl
            refine seq_take (v := ?_) (a' := ?_) (some 50) rfl rfl (by rfl) ?_ ?_ ?_
            rotate_left; rotate_left
            · intro w' hS; go_simp; with_reducible rfl
            · simp only [Act.put, List.setIfInBounds_toArray, List.set_cons_zero, List.set_cons_succ]; rfl
            refine seq_take (v := ?_) (a' := ?_) (some 51) rfl rfl (by rfl) ?_ ?_ ?_
            rotate_left; rotate_left
            · intro w' hS; go_simp; with_reducible rfl
            · simp only [Act.put, List.setIfInBounds_toArray, List.set_cons_zero, List.set_cons_succ]; rfl
            refine seq_take (v := ?_) (a' := ?_) (some 52) rfl rfl (by rfl) ?_ ?_ ?_
            rotate_left; rotate_left
            · intro w' hS; go_simp; with_reducible rfl
            · simp only [Act.put, List.setIfInBounds_toArray, List.set_cons_zero, List.set_cons_succ]; rfl
            refine seq_take (v := ?_) (a' := ?_) (some 53) rfl rfl (by rfl) ?_ ?_ ?_
            rotate_left; rotate_left
            · intro w' hS; have t1 := T1.out; have t2 := T2.out; have e1 := E1.out; have e2 := E2.out; go_simp; with_reducible rfl
            · simp only [Act.put, List.setIfInBounds_toArray, List.set_cons_zero, List.set_cons_succ]; rfl
            refine seq_take (v := ?_) (a' := ?_) (some 54) rfl rfl (by rfl) ?_ ?_ ?_
            rotate_left; rotate_left
            · intro w' hS; go_simp; with_reducible rfl
            · simp only [Act.put, List.setIfInBounds_toArray, List.set_cons_zero, List.set_cons_succ]; rfl
            refine seq_take (v := ?_) (a' := ?_) (some 55) rfl rfl (by rfl) ?_ ?_ ?_
            rotate_left; rotate_left
            · intro w' hS; go_simp; with_reducible rfl
            · simp only [Act.put, List.setIfInBounds_toArray, List.set_cons_zero, List.set_cons_succ]; rfl
            refine seq_take (v := ?_) (a' := ?_) (some 56) rfl rfl (by rfl) ?_ ?_ ?_
            rotate_left; rotate_left
            · intro w' hS; go_simp; with_reducible rfl
            · simp only [Act.put, List.setIfInBounds_toArray, List.set_cons_zero, List.set_cons_succ]; rfl
            refine seq_take (v := ?_) (a' := ?_) (some 57) rfl rfl (by rfl) ?_ ?_ ?_
            rotate_left; rotate_left
            · intro w' hS; go_simp; with_reducible rfl
            · simp only [Act.put, List.setIfInBounds_toArray, List.set_cons_zero, List.set_cons_succ]; rfl
            refine seq_take (v := ?_) (a' := ?_) (some 58) rfl rfl (by rfl) ?_ ?_ ?_
            rotate_left; rotate_left
            · intro w' hS; have p1 := cb hS q2; have p2 := cb hS r0; have p3 := cb hS r1; go_simp; with_reducible rfl
            · simp only [Act.put, List.setIfInBounds_toArray, List.set_cons_zero, List.set_cons_succ]; rfl
            refine seq_take (v := ?_) (a' := ?_) (some 59) rfl rfl (by rfl) ?_ ?_ ?_
            rotate_left; rotate_left
            · intro w' hS; go_simp; with_reducible rfl
            · simp only [Act.put, List.setIfInBounds_toArray, List.set_cons_zero, List.set_cons_succ]; rfl
            refine seq_take (v := ?_) (a' := ?_) (some 60) rfl rfl (by rfl) ?_ ?_ ?_
            rotate_left; rotate_left
            · intro w' hS; go_simp; with_reducible rfl
            · simp only [Act.put, List.setIfInBounds_toArray, List.set_cons_zero, List.set_cons_succ]; rfl
            refine seq_take (v := ?_) (a' := ?_) (some 61) rfl rfl (by rfl) ?_ ?_ ?_
            rotate_left; rotate_left
            · intro w' hS; go_simp; with_reducible rfl
            · simp only [Act.put, List.setIfInBounds_toArray, List.set_cons_zero, List.set_cons_succ]; rfl
            refine seq_take (v := ?_) (a' := ?_) (some 62) rfl rfl (by rfl) ?_ ?_ ?_
            rotate_left; rotate_left
            · intro w' hS; have p1 := cb hS q2; have p2 := cb hS r0; have p3 := cb hS r1; go_simp; with_reducible rfl
            · simp only [Act.put, List.setIfInBounds_toArray, List.set_cons_zero, List.set_cons_succ]; rfl
            refine seq_take (v := ?_) (a' := ?_) (some 63) rfl rfl (by rfl) ?_ ?_ ?_
            rotate_left; rotate_left
            · intro w' hS; have t1 := T1.out; have t2 := T2.out; have e1 := E1.out; have e2 := E2.out; go_simp; with_reducible rfl
            · simp only [Act.put, List.setIfInBounds_toArray, List.set_cons_zero, List.set_cons_succ]; rfl
            refine seq_take (v := ?_) (a' := ?_) (some 64) rfl rfl (by rfl) ?_ ?_ ?_
            rotate_left; rotate_left
            · intro w' hS; go_simp; with_reducible rfl
            · simp only [Act.put, List.setIfInBounds_toArray, List.set_cons_zero, List.set_cons_succ]; rfl
            refine seq_take (v := ?_) (a' := ?_) (some 65) rfl rfl (by rfl) ?_ ?_ ?_
            rotate_left; rotate_left
            · intro w' hS; go_simp; with_reducible rfl
            · simp only [Act.put, List.setIfInBounds_toArray, List.set_cons_zero, List.set_cons_succ]; rfl
            refine seq_take (v := ?_) (a' := ?_) (some 66) rfl rfl (by rfl) ?_ ?_ ?_
            rotate_left; rotate_left
            · intro w' hS; go_simp; with_reducible rfl
            · simp only [Act.put, List.setIfInBounds_toArray, List.set_cons_zero, List.set_cons_succ]; rfl
            refine seq_take (v := ?_) (a' := ?_) (some 67) rfl rfl (by rfl) ?_ ?_ ?_
            rotate_left; rotate_left
            · intro w' hS; go_simp; with_reducible rfl
            · simp only [Act.put, List.setIfInBounds_toArray, List.set_cons_zero, List.set_cons_succ]; rfl
            refine seq_take (v := ?_) (a' := ?_) (some 68) rfl rfl (by rfl) ?_ ?_ ?_
            rotate_left; rotate_left
            · intro w' hS; go_simp; with_reducible rfl
            · simp only [Act.put, List.setIfInBounds_toArray, List.set_cons_zero, List.set_cons_succ]; rfl
            refine seq_take (v := ?_) (a' := ?_) (some 69) rfl rfl (by rfl) ?_ ?_ ?_
            rotate_left; rotate_left
            · intro w' hS; go_simp; with_reducible rfl
            · simp only [Act.put, List.setIfInBounds_toArray, List.set_cons_zero, List.set_cons_succ]; rfl
            refine seq_take (v := ?_) (a' := ?_) (some 70) rfl rfl (by rfl) ?_ ?_ ?_
            rotate_left; rotate_left
            · intro w' hS; go_simp; with_reducible rfl
            · simp only [Act.put, List.setIfInBounds_toArray, List.set_cons_zero, List.set_cons_succ]; rfl
            refine seq_take (v := ?_) (a' := ?_) (some 71) rfl rfl (by rfl) ?_ ?_ ?_
            rotate_left; rotate_left
            · intro w' hS; have p1 := cb hS q2; have p2 := cb hS r0; have p3 := cb hS r1; go_simp; with_reducible rfl
            · simp only [Act.put, List.setIfInBounds_toArray, List.set_cons_zero, List.set_cons_succ]; rfl
            refine seq_take (v := ?_) (a' := ?_) (some 72) rfl rfl (by rfl) ?_ ?_ ?_
            rotate_left; rotate_left
            · intro w' hS; have t1 := T1.out; have t2 := T2.out; have e1 := E1.out; have e2 := E2.out; go_simp; with_reducible rfl
            · simp only [Act.put, List.setIfInBounds_toArray, List.set_cons_zero, List.set_cons_succ]; rfl
            refine seq_take (v := ?_) (a' := ?_) (some 73) rfl rfl (by rfl) ?_ ?_ ?_
            rotate_left; rotate_left
            · intro w' hS; go_simp; with_reducible rfl
            · simp only [Act.put, List.setIfInBounds_toArray, List.set_cons_zero, List.set_cons_succ]; rfl
            refine seq_take (v := ?_) (a' := ?_) (some 74) rfl rfl (by rfl) ?_ ?_ ?_
            rotate_left; rotate_left
            · intro w' hS; go_simp; with_reducible rfl
            · simp only [Act.put, List.setIfInBounds_toArray, List.set_cons_zero, List.set_cons_succ]; rfl
            refine seq_take (v := ?_) (a' := ?_) (some 75) rfl rfl (by rfl) ?_ ?_ ?_
            rotate_left; rotate_left
            · intro w' hS; go_simp; with_reducible rfl
            · simp only [Act.put, List.setIfInBounds_toArray, List.set_cons_zero, List.set_cons_succ]; rfl
            refine seq_take (v := ?_) (a' := ?_) (some 76) rfl rfl (by rfl) ?_ ?_ ?_
            rotate_left; rotate_left
            · intro w' hS; go_simp; with_reducible rfl
            · simp only [Act.put, List.setIfInBounds_toArray, List.set_cons_zero, List.set_cons_succ]; rfl
            refine seq_take (v := ?_) (a' := ?_) (some 77) rfl rfl (by rfl) ?_ ?_ ?_
            rotate_left; rotate_left
            · intro w' hS; have t1 := T1.out; have t2 := T2.out; have e1 := E1.out; have e2 := E2.out; go_simp; with_reducible rfl
            · simp only [Act.put, List.setIfInBounds_toArray, List.set_cons_zero, List.set_cons_succ]; rfl
            refine seq_take (v := ?_) (a' := ?_) (some 78) rfl rfl (by rfl) ?_ ?_ ?_
            rotate_left; rotate_left
            · intro w' hS; go_simp; with_reducible rfl
            · simp only [Act.put, List.setIfInBounds_toArray, List.set_cons_zero, List.set_cons_succ]; rfl
            refine seq_take (v := ?_) (a' := ?_) (some 79) rfl rfl (by rfl) ?_ ?_ ?_
            rotate_left; rotate_left
            · intro w' hS; go_simp; with_reducible rfl
            · simp only [Act.put, List.setIfInBounds_toArray, List.set_cons_zero, List.set_cons_succ]; rfl
            refine seq_take (v := ?_) (a' := ?_) (some 80) rfl rfl (by rfl) ?_ ?_ ?_
            rotate_left; rotate_left
            · intro w' hS; go_simp; with_reducible rfl
            · simp only [Act.put, List.setIfInBounds_toArray, List.set_cons_zero, List.set_cons_succ]; rfl
            refine seq_take (v := ?_) (a' := ?_) (some 81) rfl rfl (by rfl) ?_ ?_ ?_
            rotate_left; rotate_left
            · intro w' hS; have p1 := cb hS q2; have p2 := cb hS r0; have p3 := cb hS r1; go_simp; with_reducible rfl
            · simp only [Act.put, List.setIfInBounds_toArray, List.set_cons_zero, List.set_cons_succ]; rfl
            refine seq_take (v := ?_) (a' := ?_) (some 82) rfl rfl (by rfl) ?_ ?_ ?_
            rotate_left; rotate_left
            · intro w' hS; have t1 := T1.out; have t2 := T2.out; have e1 := E1.out; have e2 := E2.out; go_simp; with_reducible rfl
            · simp only [Act.put, List.setIfInBounds_toArray, List.set_cons_zero, List.set_cons_succ]; rfl
            refine seq_take (v := ?_) (a' := ?_) (some 83) rfl rfl (by rfl) ?_ ?_ ?_
            rotate_left; rotate_left
            · intro w' hS; have t1 := T1.out; have t2 := T2.out; have e1 := E1.out; have e2 := E2.out; go_simp; with_reducible rfl
            · simp only [Act.put, List.setIfInBounds_toArray, List.set_cons_zero, List.set_cons_succ]; rfl
            refine seq_take (v := ?_) (a' := ?_) (some 84) rfl rfl (by rfl) ?_ ?_ ?_
            rotate_left; rotate_left
            · intro w' hS; go_simp; with_reducible rfl
            · simp only [Act.put, List.setIfInBounds_toArray, List.set_cons_zero, List.set_cons_succ]; rfl
            refine seq_done ?_
            clear E1 E2 T1 T2
            go_upto_region 16 with fail
            have hB := hB.drew
            refine region_seq (fun w' => Below V.heap.size V w') [(0, true), (1, true), (2, true), (3, true), (4, true), (5, true), (6, true), (7, true), (8, false), (9, false), (10, false), (11, true)] (by kernel_rfl) (by kernel_rfl) (fun _ _ _ _ h => h) hB ?_
            try generalize World.drew _ = wS at hB ⊢
            refine seq_take (v := ?_) (a' := ?_) (some 85) rfl rfl (by rfl) ?_ ?_ ?_
            rotate_left; rotate_left
            · intro w' hS; go_simp; with_reducible rfl
            · simp only [Act.put, List.setIfInBounds_toArray, List.set_cons_zero, List.set_cons_succ]; rfl
            refine seq_take (v := ?_) (a' := ?_) (some 86) rfl rfl (by rfl) ?_ ?_ ?_
            rotate_left; rotate_left
            · intro w' hS; go_simp; with_reducible rfl
            · simp only [Act.put, List.setIfInBounds_toArray, List.set_cons_zero, List.set_cons_succ]; rfl
            refine seq_take (v := ?_) (a' := ?_) (some 87) rfl rfl (by rfl) ?_ ?_ ?_
            rotate_left; rotate_left
            · intro w' hS; go_simp; with_reducible rfl
            · simp only [Act.put, List.setIfInBounds_toArray, List.set_cons_zero, List.set_cons_succ]; rfl
            refine seq_take (v := ?_) (a' := ?_) (some 88) rfl rfl (by rfl) ?_ ?_ ?_
            rotate_left; rotate_left
            · intro w' hS; go_simp; with_reducible rfl
            · simp only [Act.put, List.setIfInBounds_toArray, List.set_cons_zero, List.set_cons_succ]; rfl
            refine seq_take (v := ?_) (a' := ?_) (some 89) rfl rfl (by rfl) ?_ ?_ ?_
            rotate_left; rotate_left
            · intro w' hS; go_simp; with_reducible rfl
            · simp only [Act.put, List.setIfInBounds_toArray, List.set_cons_zero, List.set_cons_succ]; rfl
            refine seq_take (v := ?_) (a' := ?_) (some 90) rfl rfl (by rfl) ?_ ?_ ?_
            rotate_left; rotate_left
            · intro w' hS; go_simp; with_reducible rfl
            · simp only [Act.put, List.setIfInBounds_toArray, List.set_cons_zero, List.set_cons_succ]; rfl
            refine seq_take (v := ?_) (a' := ?_) (some 91) rfl rfl (by rfl) ?_ ?_ ?_
            rotate_left; rotate_left
            · intro w' hS; go_simp; with_reducible rfl
            · simp only [Act.put, List.setIfInBounds_toArray, List.set_cons_zero, List.set_cons_succ]; rfl
            refine seq_take (v := ?_) (a' := ?_) (some 92) rfl rfl (by rfl) ?_ ?_ ?_
            rotate_left; rotate_left
            · intro w' hS; have p1 := cb hS q2; go_simp; with_reducible rfl
            · simp only [Act.put, List.setIfInBounds_toArray, List.set_cons_zero, List.set_cons_succ]; rfl
            refine seq_call (args := ?_) Try.func27 (by kernel_rfl) rfl (some 93) rfl rfl (by rfl) rfl ?_ ?_
            rotate_left
            · simp only [List.map_toArray, List.map_cons, List.map_nil]; go_simp; rfl
            with_reducible refine (parent_calls _ (S3.out.at'.below hB) x (by omega)).mono ?_
            rintro e w' ⟨rfl, hb⟩
            rw [HQ.out]
            refine ⟨_, rfl, bl_next (by repeat (first | with_reducible exact hB | refine Below.alloc ?_ (by have := hB.size; simp; omega) _ | refine bl_dN ?_ _ | refine Below.drew ?_ | refine Below.setCell ?_ (by have := hB.size; simp; omega) _)) hb, ?_⟩
            have hB := bl_next (by repeat (first | with_reducible exact hB | refine Below.alloc ?_ (by have := hB.size; simp; omega) _ | refine bl_dN ?_ _ | refine Below.drew ?_ | refine Below.setCell ?_ (by have := hB.size; simp; omega) _)) hb; clear hb
            simp only [Act.put, List.setIfInBounds_toArray, List.set_cons_zero, List.set_cons_succ]
            refine seq_call (args := ?_) Try.func19 (by kernel_rfl) rfl (some 94) rfl rfl (by rfl) rfl ?_ ?_
            rotate_left
            · simp only [List.map_toArray, List.map_cons, List.map_nil]; go_simp; rfl
            with_reducible refine (path_calls _ (S3.out.at'.below hB) G.out q hqs).mono ?_
            rintro e w' ⟨v, rfl, hrow, hb⟩
            refine ⟨_, rfl, bl_next (by repeat (first | with_reducible exact hB | refine Below.alloc ?_ (by have := hB.size; simp; omega) _ | refine bl_dN ?_ _ | refine Below.drew ?_ | refine Below.setCell ?_ (by have := hB.size; simp; omega) _)) hb, ?_⟩
            have hB := bl_next (by repeat (first | with_reducible exact hB | refine Below.alloc ?_ (by have := hB.size; simp; omega) _ | refine bl_dN ?_ _ | refine Below.drew ?_ | refine Below.setCell ?_ (by have := hB.size; simp; omega) _)) hb; clear hb
            simp only [Act.put, List.setIfInBounds_toArray, List.set_cons_zero, List.set_cons_succ]
            refine seq_call (args := ?_) Try.func16 (by kernel_rfl) rfl (some 95) rfl rfl (by rfl) rfl ?_ ?_
            rotate_left
            · simp only [List.map_toArray, List.map_cons, List.map_nil]; go_simp; rfl
            with_reducible refine (texts_calls _ (ST.out.below hB) (strS_of hrow) (by rw [List.length_tail]; have := G.out.deep x; omega) (by have := G.out.deep q; omega)).mono ?_
            rintro e w' ⟨rfl, hb⟩
            rw [HTL.out]
            refine ⟨_, rfl, bl_next (by repeat (first | with_reducible exact hB | refine Below.alloc ?_ (by have := hB.size; simp; omega) _ | refine bl_dN ?_ _ | refine Below.drew ?_ | refine Below.setCell ?_ (by have := hB.size; simp; omega) _)) hb, ?_⟩
            have hB := bl_next (by repeat (first | with_reducible exact hB | refine Below.alloc ?_ (by have := hB.size; simp; omega) _ | refine bl_dN ?_ _ | refine Below.drew ?_ | refine Below.setCell ?_ (by have := hB.size; simp; omega) _)) hb; clear hb
            simp only [Act.put, List.setIfInBounds_toArray, List.set_cons_zero, List.set_cons_succ]
            refine seq_take (v := ?_) (a' := ?_) (some 9) rfl rfl (by rfl) ?_ ?_ ?_
            rotate_left; rotate_left
            · intro w' hS; go_simp; with_reducible rfl
            · simp only [Act.put, List.setIfInBounds_toArray, List.set_cons_zero, List.set_cons_succ]; rfl
            refine seq_done ?_
            clear q2 r0 r1 hrow
            generalize (if k2 = 1 then (some ⟨b1, o1, none⟩ : Option Addr) else some ⟨b1, o1 + 1, none⟩) = A3
            go_upto_region 17 with fail
            go_cut [102] from 35 to 148 (fun s102 wc => s102 = .bool false ∧ Below V.heap.size V wc)
            case first =>
              by_cases hm0 : m = 0
              · have t3 : decide ((1 : Int) < (m : Int) + 1) = false := by rw [hm0]; rfl
                have t4 : ¬ ((1 : Int) < (m : Int) + 1) := by omega
                clear hm0
                go_wp2_with fail
                go_meet
                exact ⟨rfl, hB⟩
              · have hm0I : (1 : Int) < (m : Int) + 1 := by omega
                go_wp2_with fail
                go_meet
                exact ⟨rfl, hB⟩
            case rest =>
            obtain ⟨rfl, hB⟩ := hcut
            go_wp2_with fail
            go_loopw [10] (fun i wr => ∃ j : Nat, i = .int .i64 j ∧ j ≤ m + 1 ∧ Below V.heap.size V wr) (fun i _ => m + 1 - (intOf i).toNat)
            case atStart => exact ⟨0, rfl, Nat.zero_le _, hB⟩
            case round =>
              clear hB
              obtain ⟨j, rfl, hj, hB⟩ := hrel
              by_cases hjl : j < m + 1
              · have hjI : (j : Int) < (m : Int) + 1 := by omega
                go_wp2_with fail
                go_loopw [11] (fun i wr => ∃ n : Nat, i = .int .i64 n ∧ n ≤ j ∧ Below V.heap.size V wr) (fun i _ => j - (intOf i).toNat)
                case atStart => exact ⟨0, rfl, Nat.zero_le _, hB⟩
                case round =>
                  clear hB
                  obtain ⟨n, rfl, hn, hB⟩ := hrel
                  by_cases hnj : n < j
                  · have hnI : (n : Int) < (j : Int) := by omega
                    have hn1I : (n : Int) < (m : Int) + 1 := by omega
                    have hdf := path_differ G.out (x := x) hnj (by rw [HM.out]; exact hjl)
                    obtain ⟨b1', o1', d1, he, r0⟩ := P3.out.strS.at' (j := n) (by rw [HM.out]; omega)
                    rw [HM.out] at he
                    cases he
                    obtain ⟨b1', o1', d1, he, r1⟩ := P3.out.strS.at' (j := j) (by rw [HM.out]; omega)
                    rw [HM.out] at he
                    cases he
                    generalize (pathT N x)[n]'_ = y at r0 hdf
                    generalize (pathT N x)[j]'_ = z at r1 hdf
                    have r0 := cb hB r0; have r1 := cb hB r1
                    have hbf := beqF hdf
                    have hbn := neF hdf
                    have HBF := Lib.hid hbf; have HBN := Lib.hid hbn
                    clear hdf hbf hbn
                    obtain ⟨V2, rfl⟩ : ∃ V2 : World, V2 = wr := ⟨_, rfl⟩
                    have HB0 := Lib.hid hB
                    have hB := Below.refl V2.heap.size V2
                    go_upto_region 25 with fail
                    have hB := hB.drew
                    refine region_seq (fun w' => Below V2.heap.size V2 w') [(0, true), (1, true), (2, true), (3, true), (4, true), (5, true), (6, true), (7, true), (8, true)] (by kernel_rfl) (by kernel_rfl) (fun _ _ _ _ h => h) hB ?_
                    try generalize World.drew _ = wS at hB ⊢
                    refine seq_take (v := ?_) (a' := ?_) (some 114) rfl rfl (by rfl) ?_ ?_ ?_
                    rotate_left; rotate_left
                    · intro w' hS; go_simp; with_reducible rfl
                    · simp only [Act.put, List.setIfInBounds_toArray, List.set_cons_zero, List.set_cons_succ]; rfl
                    refine seq_take (v := ?_) (a' := ?_) (some 115) rfl rfl (by rfl) ?_ ?_ ?_
                    rotate_left; rotate_left
                    · intro w' hS; go_simp; with_reducible rfl
                    · simp only [Act.put, List.setIfInBounds_toArray, List.set_cons_zero, List.set_cons_succ]; rfl
                    refine seq_take (v := ?_) (a' := ?_) (some 116) rfl rfl (by rfl) ?_ ?_ ?_
                    rotate_left; rotate_left
                    · intro w' hS; go_simp; with_reducible rfl
                    · simp only [Act.put, List.setIfInBounds_toArray, List.set_cons_zero, List.set_cons_succ]; rfl
                    refine seq_take (v := ?_) (a' := ?_) (some 117) rfl rfl (by rfl) ?_ ?_ ?_
                    rotate_left; rotate_left
                    · intro w' hS; have p1 := cb hS r0; have p2 := cb hS r1; go_simp; with_reducible rfl
                    · simp only [Act.put, List.setIfInBounds_toArray, List.set_cons_zero, List.set_cons_succ]; rfl
                    refine seq_take (v := ?_) (a' := ?_) (some 118) rfl rfl (by rfl) ?_ ?_ ?_
                    rotate_left; rotate_left
                    · intro w' hS; go_simp; with_reducible rfl
                    · simp only [Act.put, List.setIfInBounds_toArray, List.set_cons_zero, List.set_cons_succ]; rfl
                    refine seq_take (v := ?_) (a' := ?_) (some 119) rfl rfl (by rfl) ?_ ?_ ?_
                    rotate_left; rotate_left
                    · intro w' hS; go_simp; with_reducible rfl
                    · simp only [Act.put, List.setIfInBounds_toArray, List.set_cons_zero, List.set_cons_succ]; rfl
                    refine seq_take (v := ?_) (a' := ?_) (some 120) rfl rfl (by rfl) ?_ ?_ ?_
                    rotate_left; rotate_left
                    · intro w' hS; go_simp; with_reducible rfl
                    · simp only [Act.put, List.setIfInBounds_toArray, List.set_cons_zero, List.set_cons_succ]; rfl
                    refine seq_take (v := ?_) (a' := ?_) (some 121) rfl rfl (by rfl) ?_ ?_ ?_
                    rotate_left; rotate_left
                    · intro w' hS; have p1 := cb hS r0; have p2 := cb hS r1; go_simp; with_reducible rfl
                    · simp only [Act.put, List.setIfInBounds_toArray, List.set_cons_zero, List.set_cons_succ]; rfl
                    refine seq_take (v := ?_) (a' := ?_) (some 122) rfl rfl (by rfl) ?_ ?_ ?_
                    rotate_left; rotate_left
                    · intro w' hS; have e1 := HBF.out; have e2 := HBN.out; go_simp; with_reducible rfl
                    · simp only [Act.put, List.setIfInBounds_toArray, List.set_cons_zero, List.set_cons_succ]; rfl
                    refine seq_done ?_
                    go_wp2_with fail
                    go_roundw
                    case rel => exact ⟨n + 1, by simp, by omega, bl_next HB0.out hB⟩
                    case measure => simp [intOf]; omega
                  · obtain rfl : n = j := by omega
                    go_wp2_with fail
                    go_roundw
                    case rel => exact ⟨n + 1, by simp, by omega, hB⟩
                    case measure => simp [intOf]; omega
              · obtain rfl : j = m + 1 := by omega
                rw [show (((m + 1 : Nat) : Int)) = (m : Int) + 1 by omega]
                go_wp2_with fail
                go_loopw [12] (fun i wr => ∃ j : Nat, i = .int .i64 j ∧ j ≤ N.length ∧ Below V.heap.size V wr) (fun i _ => N.length - (intOf i).toNat)
                case atStart => exact ⟨0, rfl, Nat.zero_le _, hB⟩
                case round =>
                  clear hB
                  obtain ⟨j, rfl, hj, hB⟩ := hrel
                  by_cases hjl : j < N.length
                  · have hjI : (j : Int) < N.length := by omega
                    have hja : j < (allN N).length := by rw [allN_length]; exact hjl
                    obtain ⟨y, hy⟩ : ∃ y, (allN N)[j]'hja = y := ⟨_, rfl⟩
                    have HY := Lib.hid hy
                    clear hy
                    obtain ⟨bb, hbb⟩ : ∃ bb, inL (pathT N x) y = bb := ⟨_, rfl⟩
                    have HBB := Lib.hid hbb
                    have HBC := Lib.hid ((path_on G.out (y := y) HXN.out).trans hbb)
                    clear hbb
                    obtain ⟨b', o', d', he, r0⟩ := T3.out.strS.at' hka
                    rw [allN_length] at he
                    cases he
                    obtain ⟨b', o', d', he, r1⟩ := T3.out.strS.at' hja
                    rw [allN_length] at he
                    cases he
                    rw [HX.out] at r0
                    rw [HY.out] at r1
                    have r1' := cb hB r1
                    have R0 := Lib.hid r0; have R1 := Lib.hid r1
                    clear r0 r1
                    go_wp2_with fail
                    have hpS := P3.out.strS
                    have hpe : (Value.slice (some ⟨b1, o1, none⟩) (m + 1) k2) = Value.slice (some ⟨b1, o1, none⟩) (pathT N x).length k2 := by rw [HM.out]
                    refine (in_calls _ (hpS.below hB) y (path_size N x G.out)).mono ?_
                    rintro e w5 ⟨rfl, hb⟩
                    rw [HBB.out]
                    have hB := bl_next hB hb
                    clear hb r1' hpS hpe
                    obtain ⟨V2, rfl⟩ : ∃ V2 : World, V2 = w5 := ⟨_, rfl⟩
                    have HB0 := Lib.hid hB
                    have r0 := cb hB R0.out; have r1 := cb hB R1.out
                    have S4 := Lib.hid (S3.out.read hB)
                    have hB := Below.refl V2.heap.size V2
                    go_upto_region 31 with fail
                    have hB := hB.drew
                    refine region_seq (fun w' => Below V2.heap.size V2 w') [(0, true), (1, true), (2, true), (3, true), (4, true), (6, true), (7, true), (8, true), (9, true), (5, false), (10, false), (11, true)] (by kernel_rfl) (by kernel_rfl) (fun _ _ _ _ h => h) hB ?_
                    try generalize World.drew _ = wS at hB ⊢
                    refine seq_take (v := ?_) (a' := ?_) (some 135) rfl rfl (by rfl) ?_ ?_ ?_
                    rotate_left; rotate_left
                    · intro w' hS; go_simp; with_reducible rfl
                    · simp only [Act.put, List.setIfInBounds_toArray, List.set_cons_zero, List.set_cons_succ]; rfl
                    refine seq_take (v := ?_) (a' := ?_) (some 136) rfl rfl (by rfl) ?_ ?_ ?_
                    rotate_left; rotate_left
                    · intro w' hS; go_simp; with_reducible rfl
                    · simp only [Act.put, List.setIfInBounds_toArray, List.set_cons_zero, List.set_cons_succ]; rfl
                    refine seq_take (v := ?_) (a' := ?_) (some 137) rfl rfl (by rfl) ?_ ?_ ?_
                    rotate_left; rotate_left
                    · intro w' hS; go_simp; with_reducible rfl
                    · simp only [Act.put, List.setIfInBounds_toArray, List.set_cons_zero, List.set_cons_succ]; rfl
                    refine seq_take (v := ?_) (a' := ?_) (some 138) rfl rfl (by rfl) ?_ ?_ ?_
                    rotate_left; rotate_left
                    · intro w' hS; go_simp; with_reducible rfl
                    · simp only [Act.put, List.setIfInBounds_toArray, List.set_cons_zero, List.set_cons_succ]; rfl
                    refine seq_take (v := ?_) (a' := ?_) (some 139) rfl rfl (by rfl) ?_ ?_ ?_
                    rotate_left; rotate_left
                    · intro w' hS; have p1 := cb hS r0; have p2 := cb hS r1; go_simp; with_reducible rfl
                    · simp only [Act.put, List.setIfInBounds_toArray, List.set_cons_zero, List.set_cons_succ]; rfl
                    refine seq_take (v := ?_) (a' := ?_) (some 141) rfl rfl (by rfl) ?_ ?_ ?_
                    rotate_left; rotate_left
                    · intro w' hS; go_simp; with_reducible rfl
                    · simp only [Act.put, List.setIfInBounds_toArray, List.set_cons_zero, List.set_cons_succ]; rfl
                    refine seq_take (v := ?_) (a' := ?_) (some 142) rfl rfl (by rfl) ?_ ?_ ?_
                    rotate_left; rotate_left
                    · intro w' hS; go_simp; with_reducible rfl
                    · simp only [Act.put, List.setIfInBounds_toArray, List.set_cons_zero, List.set_cons_succ]; rfl
                    refine seq_take (v := ?_) (a' := ?_) (some 143) rfl rfl (by rfl) ?_ ?_ ?_
                    rotate_left; rotate_left
                    · intro w' hS; go_simp; with_reducible rfl
                    · simp only [Act.put, List.setIfInBounds_toArray, List.set_cons_zero, List.set_cons_succ]; rfl
                    refine seq_take (v := ?_) (a' := ?_) (some 144) rfl rfl (by rfl) ?_ ?_ ?_
                    rotate_left; rotate_left
                    · intro w' hS; have p1 := cb hS r0; have p2 := cb hS r1; go_simp; with_reducible rfl
                    · simp only [Act.put, List.setIfInBounds_toArray, List.set_cons_zero, List.set_cons_succ]; rfl
                    refine seq_call (args := ?_) Try.func23 (by kernel_rfl) rfl (some 140) rfl rfl (by rfl) rfl ?_ ?_
                    rotate_left
                    · simp only [List.map_toArray, List.map_cons, List.map_nil]; go_simp; rfl
                    with_reducible refine (below_calls _ (S4.out.at'.below hB) G.out y).mono ?_
                    rintro e w' ⟨v, rfl, hrow, hb⟩
                    refine ⟨_, rfl, bl_next (by repeat (first | with_reducible exact hB | refine Below.alloc ?_ (by have := hB.size; simp; omega) _ | refine bl_dN ?_ _ | refine Below.drew ?_ | refine Below.setCell ?_ (by have := hB.size; simp; omega) _)) hb, ?_⟩
                    have hB := bl_next (by repeat (first | with_reducible exact hB | refine Below.alloc ?_ (by have := hB.size; simp; omega) _ | refine bl_dN ?_ _ | refine Below.drew ?_ | refine Below.setCell ?_ (by have := hB.size; simp; omega) _)) hb; clear hb
                    simp only [Act.put, List.setIfInBounds_toArray, List.set_cons_zero, List.set_cons_succ]
                    refine seq_call (args := ?_) Try.func29 (by kernel_rfl) rfl (some 145) rfl rfl (by rfl) rfl ?_ ?_
                    rotate_left
                    · simp only [List.map_toArray, List.map_cons, List.map_nil]; go_simp; rfl
                    with_reducible refine (in_calls _ (strS_of hrow) x (by have := List.length_filter_le (fun z => inL (pathT N z) y) (allN N); rw [allN_length] at this; unfold belowN; omega)).mono ?_
                    rintro e w' ⟨rfl, hb⟩
                    rw [HBC.out]
                    refine ⟨_, rfl, bl_next (by repeat (first | with_reducible exact hB | refine Below.alloc ?_ (by have := hB.size; simp; omega) _ | refine bl_dN ?_ _ | refine Below.drew ?_ | refine Below.setCell ?_ (by have := hB.size; simp; omega) _)) hb, ?_⟩
                    have hB := bl_next (by repeat (first | with_reducible exact hB | refine Below.alloc ?_ (by have := hB.size; simp; omega) _ | refine bl_dN ?_ _ | refine Below.drew ?_ | refine Below.setCell ?_ (by have := hB.size; simp; omega) _)) hb; clear hb
                    simp only [Act.put, List.setIfInBounds_toArray, List.set_cons_zero, List.set_cons_succ]
                    refine seq_take (v := ?_) (a' := ?_) (some 14) rfl rfl (by rfl) ?_ ?_ ?_
                    rotate_left; rotate_left
                    · intro w' hS; go_simp; with_reducible rfl
                    · simp only [Act.put, List.setIfInBounds_toArray, List.set_cons_zero, List.set_cons_succ]; rfl
                    refine seq_done ?_
                    clear r0 r1 hrow
                    go_wp2_with fail
                    go_roundw
                    case rel => exact ⟨j + 1, by simp, by omega, bl_next HB0.out hB⟩
                    case measure => simp [intOf]; omega
                  · obtain rfl : j = N.length := by omega
                    go_wp2_with fail
                    go_roundw
                    case rel => exact ⟨k + 1, by simp, by omega, Lib.hid (T3.out.below hB), Lib.hid (S3.out.read hB)⟩
                    case measure => simp [intOf]; omega
          · obtain rfl : k = N.length := by omega
            go_wp2_with fail
            refine (alive11_calls _).mono ?_
            rintro e w5 ⟨rfl, hb⟩
            have S5 := Lib.hid (S.out.read hb)
            clear S hb
            go_wp2_with fail
            refine (has_ts S5.out rootB (by decide) true G.out.hasRoot).mono ?_
            rintro e w6 ⟨rfl, S', hb⟩
            have S6 := Lib.hid S'
            clear S5 S' hb
            go_wp2_with fail
            go_ret
            exact ⟨rfl, S6.out.below⟩
theorem treeRootWalk {W : World} (y : List ActT) (v : Value) (h : (kSlice kActT).K W anyB y [v]) : Calls Try.prog 4 #[v] W fun e W' => e = .returned (.bool true) ∧ Below W.heap.size W W' := by
  obtain ⟨A, c, hv, -, hr⟩ := h
  obtain rfl : v = .slice A y.length c := by simpa using hv
  exact treeRoot_law W A c y (actsT_of hr)
end Go.Proofs.Ythaipgbjnigkhaa

import Derived.Test.YthaipgbjnigkhaaTse
namespace Go.Proofs.Ythaipgbjnigkhaa
open Go.RowKit Go.Shelf Go.Maps
set_option linter.unusedVariables false
set_option linter.unusedSimpArgs false
theorem good_size {N : Nodes} (G : Good11 N) {x : ByteArray} (h : hasN N x = true) : x.size ≤ 100 := by
  obtain ⟨p, hp⟩ := hasN_iff.1 h
  exact (G.fit _ _ hp).1
theorem allN_length (N : Nodes) : (allN N).length = N.length := by simp [allN]
set_option maxRecDepth 100000 in
set_option maxHeartbeats 8000000 in
theorem treeLost_law (w : World) (A : Option Addr) (cap : Nat) (xs : List ActT) (h : ActsT w A xs) (name : ByteArray) :
    Calls Try.prog 5 #[.slice A xs.length cap, .string name] w fun e w' => e = .returned (.bool true) ∧ Below w.heap.size w w' := by
  have hB := Below.refl w.heap.size w
  have H := Lib.hid h
  clear h
  cases hf : fitsT xs with
  | false =>
    have HF := Lib.hid hf
    clear hf
    go_enter Try.func5, Try.ntmps5
    go_wp2_with (first | (go_at_call 10; refine (fits11_calls _ _ _ _ H.out).mono ?_; rintro e w' ⟨rfl, hb⟩; rw [HF.out]; have hB := bl_next hB hb; clear hb) | (go_at_call 11; refine (alive11_calls _).mono ?_; rintro e w' ⟨rfl, hb⟩; have hB := bl_next hB hb; clear hb))
    go_ret
    exact ⟨rfl, hB⟩
  | true =>
  by_cases hnm : 100 < name.size
  · have hnI : (100 : Int) < name.size := by omega
    have HF := Lib.hid hf
    clear hf
    go_enter Try.func5, Try.ntmps5
    go_wp2_with (first | (go_at_call 10; refine (fits11_calls _ _ _ _ H.out).mono ?_; rintro e w' ⟨rfl, hb⟩; rw [HF.out]; have hB := bl_next hB hb; clear hb) | (go_at_call 11; refine (alive11_calls _).mono ?_; rintro e w' ⟨rfl, hb⟩; have hB := bl_next hB hb; clear hb))
    go_ret
    exact ⟨rfl, hB⟩
  · have hnI : (name.size : Int) ≤ 100 := by omega
    obtain ⟨hl, hfit⟩ := fitsT_spec hf
    have HF := Lib.hid hf
    have HFIT := Lib.hid hfit
    clear hf hfit
    go_enter Try.func5, Try.ntmps5
    go_wp2_with (first | (go_at_call 10; refine (fits11_calls _ _ _ _ H.out).mono ?_; rintro e w' ⟨rfl, hb⟩; rw [HF.out]; have hB := bl_next hB hb; clear hb) | (go_at_call 12; refine (new_ts w _ hB).mono ?_; rintro e w1 ⟨tp, mb, rfl, S, hb, -⟩; have S0 := Lib.hid S; clear S hb hB))
    go_loopw [7, 8] (fun n i wr => ∃ (k : Nat) (N : Nodes), n = .int .i64 N.length ∧ i = .int .i64 k ∧ k ≤ xs.length ∧ N.length ≤ k + 1 ∧ Hid (Good11 N) ∧ Hid (RightN N) ∧ Hid (TS w wr tp mb N)) (fun n i _ => xs.length - (intOf i).toNat)
    case atStart => exact ⟨0, _, rfl, rfl, Nat.zero_le _, Nat.le_refl _, Lib.hid good_begin, Lib.hid right_begin, S0⟩
    case round =>
      obtain ⟨k, N, rfl, rfl, hk, hNk, G, R, S⟩ := hrel
      by_cases hkl : k < xs.length
      · have hkI : (k : Int) < xs.length := by omega
        obtain ⟨r, hr⟩ : ∃ r, doT N (xs[k]'hkl) = r := ⟨_, rfl⟩
        obtain ⟨r, M⟩ := r
        have G2 := good_doT G.out (xs[k]'hkl)
        have R2 := right_doT R.out (xs[k]'hkl)
        rw [hr] at G2 R2
        have G3 := Lib.hid G2; have R3 := Lib.hid R2
        obtain ⟨b, off, rfl, hbA, c0, c1, c2, q0, q1⟩ := H.out.at' k hkl
        obtain ⟨hs1, hs2⟩ := HFIT.out k hkl
        have HC := Lib.hid (doT_cases G.out q0 hr)
        have HR := Lib.hid hr
        clear G2 R2 hr
        generalize xs[k]'hkl = a at *
        have C0 := Lib.hid c0; have C1 := Lib.hid c1; have C2 := Lib.hid c2
        clear c0 c1 c2
        have hsz1 : a.n.size ≤ 1000 := by omega
        have hsz2 : a.o.size ≤ 1000 := by omega
        obtain ⟨p, hp⟩ : ∃ p, parN N a.n = p := ⟨_, rfl⟩
        have HP := Lib.hid hp
        clear hp
        go_wp2_with fail
        refine (all_to S.out G.out _ rfl).mono ?_
        rintro e w2 ⟨A1, k1, rfl, T, S', hb⟩
        have T2 := Lib.hid T; have S2 := Lib.hid S'
        clear S T S' hb
        have c1 := cb S2.out.below C1.out
        go_wp2_with fail
        refine (parent_ts S2.out _ hsz1 _ HP.out).mono ?_
        rintro e w3 ⟨rfl, S', hb⟩
        have T3 := Lib.hid (T2.out.below hb); have S3 := Lib.hid S'
        clear T2 S2 S' hb c1
        have c0 := cb S3.out.below C0.out; have c1 := cb S3.out.below C1.out; have c2 := cb S3.out.below C2.out
        go_wp2_with fail
        refine (doT_tk S3.out G.out a q0 q1 hsz1 hsz2 r M HR.out).mono ?_
        rintro e w4 ⟨rfl, S', hkk⟩
        have T4 := Lib.hid (T3.out.wrote S3.out.at' hkk); have S4 := Lib.hid S'
        clear T3 S3 S' hkk c0 c1 c2
        go_wp2_with fail
        refine (all_to S4.out G3.out _ rfl).mono ?_
        rintro e w5 ⟨A2, k2, rfl, T, S', hb⟩
        have T5 := Lib.hid (T4.out.below hb); have U5 := Lib.hid T; have S5 := Lib.hid S'
        clear T4 S4 T S' hb
        go_wp2_with fail
        refine (texts_calls _ T5.out.strS U5.out.strS (by rw [allN_length]; omega) (by rw [allN_length]; have := G3.out.few; omega)).mono ?_
        rintro e w6 ⟨rfl, hb⟩
        have S6 := Lib.hid (S5.out.read hb)
        clear T5 U5 S5 hb
        obtain ⟨same, hsame⟩ : ∃ s, decide (allN N = allN M) = s := ⟨_, rfl⟩
        rw [hsame]
        have HSM := Lib.hid hsame
        clear hsame
        have c0 := cb S6.out.below C0.out; have c1 := cb S6.out.below C1.out
        rcases HC.out with ⟨hr0, rfl⟩ | ⟨rfl, e1, e2⟩ | ⟨rfl, e1, e2⟩ | ⟨rfl, e1, e2⟩
        · have hrb : (r == 0) = false := by simpa using hr0
          obtain rfl : same = true := by rw [← HSM.out]; exact decide_eq_true rfl
          go_wp2_with fail
          refine (parent_ts S6.out _ hsz1 _ HP.out).mono ?_
          rintro e w7 ⟨rfl, S', hb⟩
          have S7 := Lib.hid S'
          clear S6 S' hb c0 c1
          go_wp2_with fail
          refine (all_to S7.out G3.out _ rfl).mono ?_
          rintro e w8 ⟨A3, k3, rfl, T, S', hb⟩
          rw [allN_length]
          have S8 := Lib.hid S'
          clear S7 T S' hb
          go_wp2_with fail
          go_roundw
          case rel => exact ⟨k + 1, M, rfl, by simp, by omega, by omega, G3, R3, S8⟩
          case measure => simp [intOf]; omega
        · have f1 : decide (a.kind % 4 < 2) = false := by simp; omega
          have f1n : ¬ (a.kind % 4 < 2) := by omega
          have f2 : (a.kind % 4 == 3) = false := by simp; omega
          have f2n : ¬ (a.kind % 4 = 3) := by omega
          have e3 : ((M.length : Nat) : Int) = N.length := by omega
          have HE := Lib.hid e2
          clear e2
          go_wp2_with fail
          refine (all_to S6.out G3.out _ rfl).mono ?_
          rintro e w8 ⟨A3, k3, rfl, T, S', hb⟩
          rw [allN_length]
          have S8 := Lib.hid S'
          clear S6 T S' hb
          go_wp2_with fail
          go_roundw
          case rel => exact ⟨k + 1, M, by rw [HE.out], by simp, by omega, by omega, G3, R3, S8⟩
          case measure => simp [intOf]; omega
        · have f1 : decide (a.kind % 4 < 2) = false := by simp; omega
          have f1n : ¬ (a.kind % 4 < 2) := by omega
          have f2 : (a.kind % 4 == 3) = true := by simp; omega
          have e3 : ((M.length : Nat) : Int) = N.length - 1 := by omega
          have HE := Lib.hid e3
          go_wp2_with fail
          refine (all_to S6.out G3.out _ rfl).mono ?_
          rintro e w8 ⟨A3, k3, rfl, T, S', hb⟩
          rw [allN_length]
          have S8 := Lib.hid S'
          clear S6 T S' hb
          go_wp2_with fail
          go_roundw
          case rel => exact ⟨k + 1, M, by rw [HE.out], by simp, by omega, by omega, G3, R3, S8⟩
          case measure => simp [intOf]; omega
        · have f1 : decide (a.kind % 4 < 2) = true := by simp; omega
          have f1n : a.kind % 4 < 2 := by omega
          have f2 : (a.kind % 4 == 3) = false := by simp; omega
          have f2n : ¬ (a.kind % 4 = 3) := by omega
          have e3 : ((M.length : Nat) : Int) = N.length + 1 := by omega
          have HE := Lib.hid e3
          go_wp2_with fail
          refine (all_to S6.out G3.out _ rfl).mono ?_
          rintro e w8 ⟨A3, k3, rfl, T, S', hb⟩
          rw [allN_length]
          have S8 := Lib.hid S'
          clear S6 T S' hb
          go_wp2_with fail
          go_roundw
          case rel => exact ⟨k + 1, M, by rw [HE.out], by simp, by omega, by omega, G3, R3, S8⟩
          case measure => simp [intOf]; omega
      · obtain rfl : k = xs.length := by omega
        have hN : N.length ≤ 61 := by omega
        clear hNk hk hkl
        go_wp2_with fail
        refine (all_to S.out G.out _ rfl).mono ?_
        rintro e w2 ⟨A1, k1, rfl, T, S', hb⟩
        rw [allN_length] at T
        rw [allN_length]
        have T2 := Lib.hid T; have S2 := Lib.hid S'
        clear S T S' hb
        go_wp2_with fail
        go_loopw [14, 15] (fun c i wr => ∃ (k : Nat), c = .int .i64 (cntTo N k) ∧ i = .int .i64 k ∧ k ≤ N.length ∧ Hid (StrT wr (.slice A1 N.length k1) (allN N)) ∧ Hid (TS w wr tp mb N)) (fun c i _ => N.length - (intOf i).toNat)
        case atStart => exact ⟨0, rfl, rfl, Nat.zero_le _, T2, S2⟩
        case round =>
          clear T2 S2
          obtain ⟨k, rfl, rfl, hk, T, S⟩ := hrel
          by_cases hkl : k < N.length
          · have hkI : (k : Int) < N.length := by omega
            have hka : k < (allN N).length := by rw [allN_length]; exact hkl
            obtain ⟨x, hx⟩ : ∃ x, (allN N)[k]'hka = x := ⟨_, rfl⟩
            obtain ⟨kids, hkids⟩ : ∃ l, childN N x = l := ⟨_, rfl⟩
            have HKIDS := Lib.hid hkids
            have hkn : kids.length ≤ 200 := by rw [← hkids]; exact kids_le G.out x
            have hcs := cnt_succ hka
            rw [hx, show kidsN N x = kids.length by rw [← hkids]; rfl] at hcs
            have hcl := cnt_le G.out k
            have HCS := Lib.hid hcs
            obtain ⟨c0, hc0⟩ : ∃ c, cntTo N k = c := ⟨_, rfl⟩
            rw [hc0] at hcl HCS
            rw [hc0]
            have HX := Lib.hid hx
            clear hx hkids hcs hc0
            obtain ⟨b2, o2, d2, he2, q2⟩ := T.out.strS.at' hka
            rw [allN_length] at he2
            cases he2
            rw [HX.out] at q2
            go_wp2_with fail
            refine (children_to S.out G.out x _ HKIDS.out).mono ?_
            rintro e w3 ⟨A2, k2, rfl, U', S', hb⟩
            have T3 := Lib.hid (T.out.below hb); have U3 := Lib.hid U'; have S3 := Lib.hid S'
            clear S T U' S' hb q2
            go_wp2_with fail
            go_loopw [17] (fun j wr => ∃ (m : Nat), j = .int .i64 m ∧ m ≤ kids.length ∧ Hid (StrT wr (.slice (some ⟨b2, o2, none⟩) N.length k1) (allN N)) ∧ Hid (StrT wr (.slice A2 kids.length k2) kids) ∧ Hid (TS w wr tp mb N)) (fun j _ => kids.length - (intOf j).toNat)
            case atStart => exact ⟨0, rfl, Nat.zero_le _, T3, U3, S3⟩
            case round =>
              clear T3 U3 S3
              obtain ⟨m, rfl, hm, T, U, S⟩ := hrel
              by_cases hml : m < kids.length
              · have hmI : (m : Int) < kids.length := by omega
                obtain ⟨y, hy⟩ : ∃ y, kids[m]'hml = y := ⟨_, rfl⟩
                have hch : y ∈ childN N x := by rw [HKIDS.out, ← hy]; exact List.getElem_mem hml
                obtain ⟨hpy, hhy⟩ := child_par G.out hch
                have HPY := Lib.hid hpy; have HHY := Lib.hid hhy; have HY := Lib.hid hy
                have hys := good_size G.out hhy
                have hys2 : y.size ≤ 1000 := by omega
                clear hch hpy hhy hy
                obtain ⟨b', o', d', he, q2⟩ := T.out.strS.at' hka
                rw [allN_length] at he
                cases he
                rw [HX.out] at q2
                obtain ⟨b1, o1, d1, he, q1⟩ := U.out.strS.at' hml
                cases he
                rw [HY.out] at q1
                obtain ⟨V, rfl⟩ : ∃ V : World, V = wr := ⟨_, rfl⟩
                have hB := Below.refl V.heap.size V
                go_upto_region 29 with fail
                have hB := hB.drew
                refine region_seq (fun w' => Below V.heap.size V w') [(0, true), (1, true), (2, true), (3, true), (4, true), (6, true), (7, true), (8, true), (9, true), (5, false), (10, true), (11, true), (12, true), (13, true), (14, true), (15, true), (16, true), (17, false), (18, true), (19, true)] (by kernel_rfl) (by kernel_rfl) (fun _ _ _ _ h => h) hB ?_
                try generalize World.drew _ = wS at hB ⊢
                refine seq_take (v := ?_) (a' := ?_) (some 130) rfl rfl (by rfl) ?_ ?_ ?_
                rotate_left; rotate_left
                · intro w' hS; go_simp; with_reducible rfl
                · simp only [Act.put, List.setIfInBounds_toArray, List.set_cons_zero, List.set_cons_succ]; rfl
                refine seq_take (v := ?_) (a' := ?_) (some 131) rfl rfl (by rfl) ?_ ?_ ?_
                rotate_left; rotate_left
                · intro w' hS; go_simp; with_reducible rfl
                · simp only [Act.put, List.setIfInBounds_toArray, List.set_cons_zero, List.set_cons_succ]; rfl
                refine seq_take (v := ?_) (a' := ?_) (some 132) rfl rfl (by rfl) ?_ ?_ ?_
                rotate_left; rotate_left
                · intro w' hS; go_simp; with_reducible rfl
                · simp only [Act.put, List.setIfInBounds_toArray, List.set_cons_zero, List.set_cons_succ]; rfl
                refine seq_take (v := ?_) (a' := ?_) (some 133) rfl rfl (by rfl) ?_ ?_ ?_
                rotate_left; rotate_left
                · intro w' hS; go_simp; with_reducible rfl
                · simp only [Act.put, List.setIfInBounds_toArray, List.set_cons_zero, List.set_cons_succ]; rfl
                refine seq_take (v := ?_) (a' := ?_) (some 134) rfl rfl (by rfl) ?_ ?_ ?_
                rotate_left; rotate_left
                · intro w' hS; have p1 := cb hS q1; have p2 := cb hS q2; go_simp; with_reducible rfl
                · simp only [Act.put, List.setIfInBounds_toArray, List.set_cons_zero, List.set_cons_succ]; rfl
                refine seq_take (v := ?_) (a' := ?_) (some 136) rfl rfl (by rfl) ?_ ?_ ?_
                rotate_left; rotate_left
                · intro w' hS; go_simp; with_reducible rfl
                · simp only [Act.put, List.setIfInBounds_toArray, List.set_cons_zero, List.set_cons_succ]; rfl
                refine seq_take (v := ?_) (a' := ?_) (some 137) rfl rfl (by rfl) ?_ ?_ ?_
                rotate_left; rotate_left
                · intro w' hS; go_simp; with_reducible rfl
                · simp only [Act.put, List.setIfInBounds_toArray, List.set_cons_zero, List.set_cons_succ]; rfl
                refine seq_take (v := ?_) (a' := ?_) (some 138) rfl rfl (by rfl) ?_ ?_ ?_
                rotate_left; rotate_left
                · intro w' hS; go_simp; with_reducible rfl
                · simp only [Act.put, List.setIfInBounds_toArray, List.set_cons_zero, List.set_cons_succ]; rfl
                refine seq_take (v := ?_) (a' := ?_) (some 139) rfl rfl (by rfl) ?_ ?_ ?_
                rotate_left; rotate_left
                · intro w' hS; have p1 := cb hS q1; have p2 := cb hS q2; go_simp; with_reducible rfl
                · simp only [Act.put, List.setIfInBounds_toArray, List.set_cons_zero, List.set_cons_succ]; rfl
                refine seq_call (args := ?_) Try.func27 (by kernel_rfl) rfl (some 135) rfl rfl (by rfl) rfl ?_ ?_
                rotate_left
                · simp only [List.map_toArray, List.map_cons, List.map_nil]; go_simp; rfl
                with_reducible refine (parent_calls _ (S.out.at'.below hB) y (by omega)).mono ?_
                rintro e w' ⟨rfl, hb⟩
                rw [HPY.out]
                refine ⟨_, rfl, bl_next (by repeat (first | with_reducible exact hB | refine Below.alloc ?_ (by have := hB.size; simp; omega) _ | refine bl_dN ?_ _ | refine Below.drew ?_ | refine Below.setCell ?_ (by have := hB.size; simp; omega) _)) hb, ?_⟩
                have hB := bl_next (by repeat (first | with_reducible exact hB | refine Below.alloc ?_ (by have := hB.size; simp; omega) _ | refine bl_dN ?_ _ | refine Below.drew ?_ | refine Below.setCell ?_ (by have := hB.size; simp; omega) _)) hb; clear hb
                simp only [Act.put, List.setIfInBounds_toArray, List.set_cons_zero, List.set_cons_succ]
                refine seq_take (v := ?_) (a' := ?_) (some 140) rfl rfl (by rfl) ?_ ?_ ?_
                rotate_left; rotate_left
                · intro w' hS; go_simp; with_reducible rfl
                · simp only [Act.put, List.setIfInBounds_toArray, List.set_cons_zero, List.set_cons_succ]; rfl
                refine seq_take (v := ?_) (a' := ?_) (some 141) rfl rfl (by rfl) ?_ ?_ ?_
                rotate_left; rotate_left
                · intro w' hS; go_simp; with_reducible rfl
                · simp only [Act.put, List.setIfInBounds_toArray, List.set_cons_zero, List.set_cons_succ]; rfl
                refine seq_take (v := ?_) (a' := ?_) (some 142) rfl rfl (by rfl) ?_ ?_ ?_
                rotate_left; rotate_left
                · intro w' hS; go_simp; with_reducible rfl
                · simp only [Act.put, List.setIfInBounds_toArray, List.set_cons_zero, List.set_cons_succ]; rfl
                refine seq_take (v := ?_) (a' := ?_) (some 143) rfl rfl (by rfl) ?_ ?_ ?_
                rotate_left; rotate_left
                · intro w' hS; go_simp; with_reducible rfl
                · simp only [Act.put, List.setIfInBounds_toArray, List.set_cons_zero, List.set_cons_succ]; rfl
                refine seq_take (v := ?_) (a' := ?_) (some 144) rfl rfl (by rfl) ?_ ?_ ?_
                rotate_left; rotate_left
                · intro w' hS; go_simp; with_reducible rfl
                · simp only [Act.put, List.setIfInBounds_toArray, List.set_cons_zero, List.set_cons_succ]; rfl
                refine seq_take (v := ?_) (a' := ?_) (some 145) rfl rfl (by rfl) ?_ ?_ ?_
                rotate_left; rotate_left
                · intro w' hS; go_simp; with_reducible rfl
                · simp only [Act.put, List.setIfInBounds_toArray, List.set_cons_zero, List.set_cons_succ]; rfl
                refine seq_take (v := ?_) (a' := ?_) (some 146) rfl rfl (by rfl) ?_ ?_ ?_
                rotate_left; rotate_left
                · intro w' hS; have p1 := cb hS q1; have p2 := cb hS q2; go_simp; with_reducible rfl
                · simp only [Act.put, List.setIfInBounds_toArray, List.set_cons_zero, List.set_cons_succ]; rfl
                refine seq_call (args := ?_) Try.func25 (by kernel_rfl) rfl (some 147) rfl rfl (by rfl) rfl ?_ ?_
                rotate_left
                · simp only [List.map_toArray, List.map_cons, List.map_nil]; go_simp; rfl
                with_reducible refine (has_calls _ (S.out.at'.below hB) y (by omega)).mono ?_
                rintro e w' ⟨rfl, hb⟩
                rw [HHY.out]
                refine ⟨_, rfl, bl_next (by repeat (first | with_reducible exact hB | refine Below.alloc ?_ (by have := hB.size; simp; omega) _ | refine bl_dN ?_ _ | refine Below.drew ?_ | refine Below.setCell ?_ (by have := hB.size; simp; omega) _)) hb, ?_⟩
                have hB := bl_next (by repeat (first | with_reducible exact hB | refine Below.alloc ?_ (by have := hB.size; simp; omega) _ | refine bl_dN ?_ _ | refine Below.drew ?_ | refine Below.setCell ?_ (by have := hB.size; simp; omega) _)) hb; clear hb
                simp only [Act.put, List.setIfInBounds_toArray, List.set_cons_zero, List.set_cons_succ]
                refine seq_take (v := ?_) (a' := ?_) (some 148) rfl rfl (by rfl) ?_ ?_ ?_
                rotate_left; rotate_left
                · intro w' hS; go_simp; with_reducible rfl
                · simp only [Act.put, List.setIfInBounds_toArray, List.set_cons_zero, List.set_cons_succ]; rfl
                refine seq_take (v := ?_) (a' := ?_) (some 149) rfl rfl (by rfl) ?_ ?_ ?_
                rotate_left; rotate_left
                · intro w' hS; go_simp; with_reducible rfl
                · simp only [Act.put, List.setIfInBounds_toArray, List.set_cons_zero, List.set_cons_succ]; rfl
                refine seq_done ?_
                go_wp2_with fail
                go_roundw
                case rel => exact ⟨m + 1, by simp, by omega, Lib.hid (T.out.below hB), Lib.hid (U.out.below hB), Lib.hid (S.out.read hB)⟩
                case measure => simp [intOf]; omega
              · obtain rfl : m = kids.length := by omega
                go_wp2_with fail
                go_roundw
                case rel => exact ⟨k + 1, by rw [HCS.out]; simp, by simp, by omega, T, S⟩
                case measure => simp [intOf]; omega
          · obtain rfl : k = N.length := by omega
            have hca := cnt_all G.out
            rw [allN_length] at hca
            rw [hca]
            clear hca hk hkl
            have hsn : name.size ≤ 1000 := by omega
            obtain ⟨p, hp⟩ : ∃ p, parN N name = p := ⟨_, rfl⟩
            have HP := Lib.hid hp
            have hps : p.size ≤ 1000 := by rw [← hp]; have := par_size G.out name; omega
            clear hp
            obtain ⟨r, hr⟩ : ∃ r, removeR N name = r := ⟨_, rfl⟩
            obtain ⟨r, M⟩ := r
            have HR := Lib.hid hr
            have G2 := good_removeR G.out name
            rw [hr] at G2
            have G3 := Lib.hid G2
            have HCS := Lib.hid (removeR_cases G.out name)
            rw [hr] at HCS
            clear G2 hr
            go_wp2_with fail
            refine (parent_ts S.out _ hsn _ HP.out).mono ?_
            rintro e w3 ⟨rfl, S', hb⟩
            have T3 := Lib.hid (T.out.below hb); have S3 := Lib.hid S'
            clear S T S' hb
            go_wp2_with fail
            refine (remove_ts S3.out G.out _ hsn _ _ HR.out).mono ?_
            rintro e w4 ⟨rfl, S', hkk⟩
            have T4 := Lib.hid (T3.out.wrote S3.out.at' hkk); have S4 := Lib.hid S'
            clear S3 T3 S' hkk
            by_cases hr0 : r = 0
            · subst hr0
              obtain ⟨h1, h2⟩ := remove_create G.out R.out HR.out
              rw [HP.out] at h2
              have H1 := Lib.hid h1; have H2 := Lib.hid h2
              clear h1 h2 HCS
              go_wp2_with fail
              refine (has_ts S4.out _ hsn _ H1.out).mono ?_
              rintro e w5 ⟨rfl, S', hb⟩
              have T5 := Lib.hid (T4.out.below hb); have S5 := Lib.hid S'
              clear S4 T4 S' hb
              go_wp2_with fail
              refine (create_ts S5.out G3.out _ _ hsn hps _ _ H2.out).mono ?_
              rintro e w6 ⟨rfl, S', hkk⟩
              have T6 := Lib.hid (T5.out.wrote S5.out.at' hkk); have S6 := Lib.hid S'
              clear S5 T5 S' hkk
              go_wp2_with fail
              refine (all_to S6.out G.out _ rfl).mono ?_
              rintro e w7 ⟨A2, k2, rfl, U, S', hb⟩
              have T7 := Lib.hid (T6.out.below hb); have U7 := Lib.hid U; have S7 := Lib.hid S'
              clear S6 T6 U S' hb
              go_wp2_with fail
              refine (texts_calls _ T7.out.strS U7.out.strS (by rw [allN_length]; omega) (by rw [allN_length]; omega)).mono ?_
              rintro e w8 ⟨rfl, hb⟩
              rw [show decide (allN N = allN N) = true from decide_eq_true rfl]
              have S8 := Lib.hid (S7.out.read hb)
              clear S7 T7 U7 hb
              go_wp2_with fail
              refine (alive11_calls _).mono ?_
              rintro e w9 ⟨rfl, hb⟩
              have S9 := Lib.hid (S8.out.read hb)
              clear S8 hb
              go_wp2_with fail
              refine (parent_ts S9.out _ hsn _ HP.out).mono ?_
              rintro e w10 ⟨rfl, S', hb⟩
              have S10 := Lib.hid S'
              clear S9 S' hb
              go_wp2_with fail
              go_ret
              exact ⟨rfl, S10.out.below⟩
            · have hrb : (r == 0) = false := by simpa using hr0
              go_wp2_with fail
              refine (alive11_calls _).mono ?_
              rintro e w9 ⟨rfl, hb⟩
              have S9 := Lib.hid (S4.out.read hb)
              clear S4 hb
              go_wp2_with fail
              go_ret
              exact ⟨rfl, S9.out.below⟩
theorem treeLostWalk {W : World} (y : List ActT) (v : Value) (h : (kSlice kActT).K W anyB y [v]) (z : ByteArray) (u : Value) (h2 : kStr.K W anyB z [u]) : Calls Try.prog 5 #[v, u] W fun e W' => e = .returned (.bool true) ∧ Below W.heap.size W W' := by
  obtain ⟨A, c, hv, -, hr⟩ := h
  obtain rfl : v = .slice A y.length c := by simpa using hv
  obtain rfl : u = .string z := by simpa using (show [u] = [.string z] from h2)
  exact treeLost_law W A c y (actsT_of hr) z
end Go.Proofs.Ythaipgbjnigkhaa

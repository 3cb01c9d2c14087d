import Derived.Test.YthhfcambdmdgfaaKspae
import Derived.IntWalk
namespace Go.Proofs.Ythhfcambdmdgfaa
open Go.RowKit Go.Maps Srt
set_option linter.unusedVariables false
set_option linter.unusedSimpArgs false
theorem half {i j : Nat} (h : i < j) : i ≤ (i + j) / 2 ∧ (i + j) / 2 < j := by omega
set_option maxRecDepth 100000 in
set_option maxHeartbeats 16000000 in
theorem symM_calls : ∀ (s : Nat) {w0 W : World} {B g N cap : Nat} {d : Nat → OX} (a m b : Nat), b - a ≤ s → a < m → m < b → b ≤ N → N ≤ 1000000 → SW w0 B g N cap d W → AllP N d → SrtF kX ltB d a m → SrtF kX ltB d m b →
    Calls Try.prog 105 #[.slice (some ⟨g, 0, none⟩) N cap, .int .i64 (a : Int), .int .i64 (m : Int), .int .i64 (b : Int), .func (.func 58) #[] #[]] W (Done w0 B g N cap d a b) := by
  intro s
  induction s with
  | zero => intro w0 W B g N cap d a m b h1 h2 h3; omega
  | succ s ih =>
  intro w0 W B g N cap d a m b hs ham hmb hb hN h hP hS1 hS2
  have IH := Lib.hid (fun w0 W B g N cap d => @ih w0 W B g N cap d)
  have HSW0 := Lib.hid h; have HP := Lib.hid hP; have HS1 := Lib.hid hS1; have HS2 := Lib.hid hS2
  clear ih h hP hS1 hS2
  have ha1 : (a : Int) < m := by omega
  have hm1 : (m : Int) < b := by omega
  have hb1 : (b : Int) ≤ 1000000 := by omega
  go_enter Try.func105, Try.ntmps105
  by_cases hma : m = a + 1
  · have ht : (((m : Int) - a) == 1) = true := by (rw [beq_iff_eq]; omega)
    have HMA := Lib.hid hma
    clear hma
    go_wp2_with fail
    clear ht
    go_loopw [10, 11] (fun si sj wr => ∃ (i j : Nat), si = .int .i64 (i : Int) ∧ sj = .int .i64 (j : Int) ∧ m ≤ i ∧ i ≤ j ∧ j ≤ b ∧ Hid ((∀ y, m ≤ y → y < i → ltB (kX (d y)) (kX (d a)) = true) ∧ (∀ y, j ≤ y → y < b → ltB (kX (d y)) (kX (d a)) = false)) ∧ Hid (SW w0 B g N cap d wr)) (fun si sj _ => (intOf sj).toNat - (intOf si).toNat)
    case atStart => exact ⟨m, b, rfl, rfl, Nat.le_refl _, by omega, Nat.le_refl _, Lib.hid ⟨(fun y h1 h2 => by omega), (fun y h1 h2 => by omega)⟩, HSW0⟩
    case round =>
      obtain ⟨i, j, rfl, rfl, hi, hij, hj, HQ, HSW⟩ := hrel
      obtain ⟨V, rfl⟩ : ∃ V : World, V = wr := ⟨_, rfl⟩
      by_cases hlt : i < j
      · have hltI : (i : Int) < j := by omega
        have hjI : (j : Int) ≤ 1000000 := by omega
        obtain ⟨hx1, hx2⟩ := half hlt
        obtain ⟨k, hk⟩ : ∃ k, (i + j) / 2 = k := ⟨_, rfl⟩
        rw [hk] at hx1 hx2
        have HK := Lib.hid (show ((i : Int) + j) / 2 = (k : Int) by omega)
        clear hk
        have HLX := Lib.hid (show k < N by omega); have HLY := Lib.hid (show a < N by omega)
        have hPk := HP.out
        have hkN : (k : Int) < N := by omega
        have hoN : (a : Int) < N := by omega
        obtain ⟨zx, ax, nx, cx, ex⟩ := hPk _ HLX.out
        obtain ⟨zy, ay, ny, cy, ey⟩ := hPk _ HLY.out
        have Q1 := Lib.hid (HSW.out.at HLX.out); have Q2 := Lib.hid (HSW.out.at HLY.out)
        have HC1 := Lib.hid (fun (U : World) => cmp_calls U (hPk _ HLX.out) (hPk _ HLY.out))
        have HC2 := Lib.hid (fun (U : World) => cmp_calls U (hPk _ HLY.out) (hPk _ HLX.out))
        obtain ⟨⟨x, sx⟩, hx⟩ : ∃ p, d (k) = p := ⟨_, rfl⟩
        obtain ⟨⟨y, sy⟩, hy⟩ : ∃ p, d (a) = p := ⟨_, rfl⟩
        rw [hx] at Q1 ex HC1 HC2; rw [hy] at Q2 ey HC1 HC2
        simp only at ex ey HC1 HC2
        subst ex; subst ey
        unfold objV at HC1 HC2
        have HX := Lib.hid hx; have HY := Lib.hid hy
        clear hx hy hPk zx zy
        obtain ⟨c, hc⟩ : ∃ c, cmpO x y = c := ⟨_, rfl⟩
        have HL2 := Lib.hid (show decide (c < 0) = ltB (kX (d (k))) (kX (d (a))) by rw [← hc, cmpO_lt]; rw [HX.out, HY.out]; rfl)
        rw [hc] at HC1
        clear hc HC2
        have hB := Below.refl V.heap.size V
        go_upto_region 5 with fail
        rw [HK.out]
        by_cases hcn : c < 0
        · have HLT := Lib.hid (show ltB (kX (d k)) (kX (d a)) = true by rw [← HL2.out]; exact decide_eq_true hcn)
          have hB := hB.drew
          refine region_seq (fun w' => Below V.heap.size V w') [(0, true), (1, true), (2, true), (3, true), (4, true), (5, true), (6, true), (7, true), (8, true), (9, false), (10, true)] (by kernel_rfl) (by kernel_rfl) (fun _ _ _ _ h => h) hB ?_
          try generalize World.drew _ = wS at hB ⊢
          refine seq_take (v := ?_) (a' := ?_) (some 40) rfl rfl (by rfl) ?_ ?_ ?_
          rotate_left; rotate_left
          · intro w' hS; go_simp; with_reducible rfl
          · simp only [Act.put, List.setIfInBounds_toArray, List.set_cons_zero, List.set_cons_succ]; rfl
          refine seq_take (v := ?_) (a' := ?_) (some 41) rfl rfl (by rfl) ?_ ?_ ?_
          rotate_left; rotate_left
          · intro w' hS; go_simp; with_reducible rfl
          · simp only [Act.put, List.setIfInBounds_toArray, List.set_cons_zero, List.set_cons_succ]; rfl
          refine seq_take (v := ?_) (a' := ?_) (some 42) rfl rfl (by rfl) ?_ ?_ ?_
          rotate_left; rotate_left
          · intro w' hS; go_simp; with_reducible rfl
          · simp only [Act.put, List.setIfInBounds_toArray, List.set_cons_zero, List.set_cons_succ]; rfl
          refine seq_take (v := ?_) (a' := ?_) (some 43) rfl rfl (by rfl) ?_ ?_ ?_
          rotate_left; rotate_left
          · intro w' hS; go_simp; with_reducible rfl
          · simp only [Act.put, List.setIfInBounds_toArray, List.set_cons_zero, List.set_cons_succ]; rfl
          refine seq_take (v := ?_) (a' := ?_) (some 44) rfl rfl (by rfl) ?_ ?_ ?_
          rotate_left; rotate_left
          · intro w' hS; have p1 := Q1.out.below hS; have p2 := Q2.out.below hS; have a0 := p1.c0; have a1 := p1.c1; have a2 := p1.c2; have a3 := p1.c3; have a4 := p1.c4; have a5 := p1.c5; have a6 := p1.c6; have a7 := p1.c7; have b0 := p2.c0; have b1 := p2.c1; have b2 := p2.c2; have b3 := p2.c3; have b4 := p2.c4; have b5 := p2.c5; have b6 := p2.c6; have b7 := p2.c7; simp only at a0 a1 a2 a3 a4 a5 a6 a7 b0 b1 b2 b3 b4 b5 b6 b7; go_simp; with_reducible rfl
          · simp only [Act.put, List.setIfInBounds_toArray, List.set_cons_zero, List.set_cons_succ]; rfl
          refine seq_take (v := ?_) (a' := ?_) (some 45) rfl rfl (by rfl) ?_ ?_ ?_
          rotate_left; rotate_left
          · intro w' hS; go_simp; with_reducible rfl
          · simp only [Act.put, List.setIfInBounds_toArray, List.set_cons_zero, List.set_cons_succ]; rfl
          refine seq_take (v := ?_) (a' := ?_) (some 46) rfl rfl (by rfl) ?_ ?_ ?_
          rotate_left; rotate_left
          · intro w' hS; go_simp; with_reducible rfl
          · simp only [Act.put, List.setIfInBounds_toArray, List.set_cons_zero, List.set_cons_succ]; rfl
          refine seq_take (v := ?_) (a' := ?_) (some 47) rfl rfl (by rfl) ?_ ?_ ?_
          rotate_left; rotate_left
          · intro w' hS; go_simp; with_reducible rfl
          · simp only [Act.put, List.setIfInBounds_toArray, List.set_cons_zero, List.set_cons_succ]; rfl
          refine seq_take (v := ?_) (a' := ?_) (some 48) rfl rfl (by rfl) ?_ ?_ ?_
          rotate_left; rotate_left
          · intro w' hS; have p1 := Q1.out.below hS; have p2 := Q2.out.below hS; have a0 := p1.c0; have a1 := p1.c1; have a2 := p1.c2; have a3 := p1.c3; have a4 := p1.c4; have a5 := p1.c5; have a6 := p1.c6; have a7 := p1.c7; have b0 := p2.c0; have b1 := p2.c1; have b2 := p2.c2; have b3 := p2.c3; have b4 := p2.c4; have b5 := p2.c5; have b6 := p2.c6; have b7 := p2.c7; simp only at a0 a1 a2 a3 a4 a5 a6 a7 b0 b1 b2 b3 b4 b5 b6 b7; go_simp; with_reducible rfl
          · simp only [Act.put, List.setIfInBounds_toArray, List.set_cons_zero, List.set_cons_succ]; rfl
          refine seq_callV (args := ?_) Try.func58 (by kernel_rfl) rfl (some 49) rfl rfl (by rfl) rfl rfl ?_ ?_
          rotate_left
          · simp only [List.map_toArray, List.map_cons, List.map_nil]; go_simp; rfl
          with_reducible refine (HC1.out _).mono ?_
          rintro e w' ⟨rfl, hb⟩
          refine ⟨_, rfl, bl_next (by repeat (first | with_reducible exact hB | refine Below.alloc ?_ (by have := hB.size; simp; omega) _ | refine bl_dN ?_ _ | refine Below.drew ?_ | refine Below.setCell ?_ (by have := hB.size; simp; omega) _)) hb, ?_⟩
          have hB := bl_next (by repeat (first | with_reducible exact hB | refine Below.alloc ?_ (by have := hB.size; simp; omega) _ | refine bl_dN ?_ _ | refine Below.drew ?_ | refine Below.setCell ?_ (by have := hB.size; simp; omega) _)) hb; clear hb
          simp only [Act.put, List.setIfInBounds_toArray, List.set_cons_zero, List.set_cons_succ]
          refine seq_take (v := ?_) (a' := ?_) (some 50) rfl rfl (by rfl) ?_ ?_ ?_
          rotate_left; rotate_left
          · intro w' hS; go_simp; with_reducible rfl
          · simp only [Act.put, List.setIfInBounds_toArray, List.set_cons_zero, List.set_cons_succ]; rfl
          refine seq_done ?_
          go_wp2_with fail
          go_roundw
          case rel => exact ⟨k + 1, j, by simp, rfl, by omega, by omega, by omega, Lib.hid ⟨(fun y h1 h2 => by
            rcases Nat.lt_or_ge y k with z | z
            · exact toB.le_lt (HS2.out y k h1 z (by omega)) HLT.out
            · obtain rfl : y = k := by omega
              exact HLT.out), HQ.out.2⟩, Lib.hid (HSW.out.read hB)⟩
          case measure => simp [intOf]; omega
        · have HLT := Lib.hid (show ltB (kX (d k)) (kX (d a)) = false by rw [← HL2.out]; exact decide_eq_false hcn)
          have hB := hB.drew
          refine region_seq (fun w' => Below V.heap.size V w') [(0, true), (1, true), (2, true), (3, true), (4, true), (5, true), (6, true), (7, true), (8, true), (9, false), (10, true)] (by kernel_rfl) (by kernel_rfl) (fun _ _ _ _ h => h) hB ?_
          try generalize World.drew _ = wS at hB ⊢
          refine seq_take (v := ?_) (a' := ?_) (some 40) rfl rfl (by rfl) ?_ ?_ ?_
          rotate_left; rotate_left
          · intro w' hS; go_simp; with_reducible rfl
          · simp only [Act.put, List.setIfInBounds_toArray, List.set_cons_zero, List.set_cons_succ]; rfl
          refine seq_take (v := ?_) (a' := ?_) (some 41) rfl rfl (by rfl) ?_ ?_ ?_
          rotate_left; rotate_left
          · intro w' hS; go_simp; with_reducible rfl
          · simp only [Act.put, List.setIfInBounds_toArray, List.set_cons_zero, List.set_cons_succ]; rfl
          refine seq_take (v := ?_) (a' := ?_) (some 42) rfl rfl (by rfl) ?_ ?_ ?_
          rotate_left; rotate_left
          · intro w' hS; go_simp; with_reducible rfl
          · simp only [Act.put, List.setIfInBounds_toArray, List.set_cons_zero, List.set_cons_succ]; rfl
          refine seq_take (v := ?_) (a' := ?_) (some 43) rfl rfl (by rfl) ?_ ?_ ?_
          rotate_left; rotate_left
          · intro w' hS; go_simp; with_reducible rfl
          · simp only [Act.put, List.setIfInBounds_toArray, List.set_cons_zero, List.set_cons_succ]; rfl
          refine seq_take (v := ?_) (a' := ?_) (some 44) rfl rfl (by rfl) ?_ ?_ ?_
          rotate_left; rotate_left
          · intro w' hS; have p1 := Q1.out.below hS; have p2 := Q2.out.below hS; have a0 := p1.c0; have a1 := p1.c1; have a2 := p1.c2; have a3 := p1.c3; have a4 := p1.c4; have a5 := p1.c5; have a6 := p1.c6; have a7 := p1.c7; have b0 := p2.c0; have b1 := p2.c1; have b2 := p2.c2; have b3 := p2.c3; have b4 := p2.c4; have b5 := p2.c5; have b6 := p2.c6; have b7 := p2.c7; simp only at a0 a1 a2 a3 a4 a5 a6 a7 b0 b1 b2 b3 b4 b5 b6 b7; go_simp; with_reducible rfl
          · simp only [Act.put, List.setIfInBounds_toArray, List.set_cons_zero, List.set_cons_succ]; rfl
          refine seq_take (v := ?_) (a' := ?_) (some 45) rfl rfl (by rfl) ?_ ?_ ?_
          rotate_left; rotate_left
          · intro w' hS; go_simp; with_reducible rfl
          · simp only [Act.put, List.setIfInBounds_toArray, List.set_cons_zero, List.set_cons_succ]; rfl
          refine seq_take (v := ?_) (a' := ?_) (some 46) rfl rfl (by rfl) ?_ ?_ ?_
          rotate_left; rotate_left
          · intro w' hS; go_simp; with_reducible rfl
          · simp only [Act.put, List.setIfInBounds_toArray, List.set_cons_zero, List.set_cons_succ]; rfl
          refine seq_take (v := ?_) (a' := ?_) (some 47) rfl rfl (by rfl) ?_ ?_ ?_
          rotate_left; rotate_left
          · intro w' hS; go_simp; with_reducible rfl
          · simp only [Act.put, List.setIfInBounds_toArray, List.set_cons_zero, List.set_cons_succ]; rfl
          refine seq_take (v := ?_) (a' := ?_) (some 48) rfl rfl (by rfl) ?_ ?_ ?_
          rotate_left; rotate_left
          · intro w' hS; have p1 := Q1.out.below hS; have p2 := Q2.out.below hS; have a0 := p1.c0; have a1 := p1.c1; have a2 := p1.c2; have a3 := p1.c3; have a4 := p1.c4; have a5 := p1.c5; have a6 := p1.c6; have a7 := p1.c7; have b0 := p2.c0; have b1 := p2.c1; have b2 := p2.c2; have b3 := p2.c3; have b4 := p2.c4; have b5 := p2.c5; have b6 := p2.c6; have b7 := p2.c7; simp only at a0 a1 a2 a3 a4 a5 a6 a7 b0 b1 b2 b3 b4 b5 b6 b7; go_simp; with_reducible rfl
          · simp only [Act.put, List.setIfInBounds_toArray, List.set_cons_zero, List.set_cons_succ]; rfl
          refine seq_callV (args := ?_) Try.func58 (by kernel_rfl) rfl (some 49) rfl rfl (by rfl) rfl rfl ?_ ?_
          rotate_left
          · simp only [List.map_toArray, List.map_cons, List.map_nil]; go_simp; rfl
          with_reducible refine (HC1.out _).mono ?_
          rintro e w' ⟨rfl, hb⟩
          refine ⟨_, rfl, bl_next (by repeat (first | with_reducible exact hB | refine Below.alloc ?_ (by have := hB.size; simp; omega) _ | refine bl_dN ?_ _ | refine Below.drew ?_ | refine Below.setCell ?_ (by have := hB.size; simp; omega) _)) hb, ?_⟩
          have hB := bl_next (by repeat (first | with_reducible exact hB | refine Below.alloc ?_ (by have := hB.size; simp; omega) _ | refine bl_dN ?_ _ | refine Below.drew ?_ | refine Below.setCell ?_ (by have := hB.size; simp; omega) _)) hb; clear hb
          simp only [Act.put, List.setIfInBounds_toArray, List.set_cons_zero, List.set_cons_succ]
          refine seq_take (v := ?_) (a' := ?_) (some 50) rfl rfl (by rfl) ?_ ?_ ?_
          rotate_left; rotate_left
          · intro w' hS; go_simp; with_reducible rfl
          · simp only [Act.put, List.setIfInBounds_toArray, List.set_cons_zero, List.set_cons_succ]; rfl
          refine seq_done ?_
          go_wp2_with fail
          go_roundw
          case rel => exact ⟨i, k, rfl, rfl, by omega, by omega, by omega, Lib.hid ⟨HQ.out.1, (fun y h1 h2 => by
            rcases Nat.lt_or_ge k y with z | z
            · exact toB.le_tr HLT.out (HS2.out k y (by omega) z h2)
            · obtain rfl : y = k := by omega
              exact HLT.out)⟩, Lib.hid (HSW.out.read hB)⟩
          case measure => simp [intOf]; omega
      · obtain rfl : i = j := by omega
        have hlI : ¬ (i : Int) < i := by omega
        have q1 : (1 : Int) ≤ i := by omega
        have q2 : (i : Int) ≤ 1000000 := by omega
        go_wp2_with fail
        go_loopw [13] (fun sk wr => ∃ (k : Nat), sk = .int .i64 (k : Int) ∧ a ≤ k ∧ k + 1 ≤ i ∧ Hid (SW w0 B g N cap (rot d a (a + 1) (k + 1)) wr)) (fun sk _ => i - (intOf sk).toNat)
        case atStart => exact ⟨a, rfl, Nat.le_refl _, by have := HMA.out; omega, Lib.hid (by rw [rot_nilR d (by omega)]; exact HSW.out)⟩
        case round =>
          clear HSW
          obtain ⟨k, rfl, hk1, hk2, HSW⟩ := hrel
          obtain ⟨V, rfl⟩ : ∃ V : World, V = wr := ⟨_, rfl⟩
          by_cases hki : k + 1 < i
          · have hkI : (k : Int) < (i : Int) - 1 := by omega
            have HLX := Lib.hid (show k < N by omega); have HLY := Lib.hid (show k + 1 < N by omega)
            have hPk := allP_rot HP.out (s := a) (m := a + 1) (e := k + 1) (by omega) (by omega) (by omega)
            have HSTEP := Lib.hid (rot_up d (a := a) (k := k) hk1)
            generalize rot d a (a + 1) (k + 1) = dk at HSW hPk HSTEP
            obtain ⟨zx, ax, nx, cx, ex⟩ := hPk _ HLX.out
            obtain ⟨zy, ay, ny, cy, ey⟩ := hPk _ HLY.out
            have Q1 := Lib.hid (HSW.out.at HLX.out); have Q2 := Lib.hid (HSW.out.at HLY.out)
            have HC1 := Lib.hid (fun (U : World) => cmp_calls U (hPk _ HLX.out) (hPk _ HLY.out))
            have HC2 := Lib.hid (fun (U : World) => cmp_calls U (hPk _ HLY.out) (hPk _ HLX.out))
            obtain ⟨⟨x, sx⟩, hx⟩ : ∃ p, dk (k) = p := ⟨_, rfl⟩
            obtain ⟨⟨y, sy⟩, hy⟩ : ∃ p, dk (k + 1) = p := ⟨_, rfl⟩
            rw [hx] at Q1 ex HC1 HC2; rw [hy] at Q2 ey HC1 HC2
            simp only at ex ey HC1 HC2
            subst ex; subst ey
            unfold objV at HC1 HC2
            have HX := Lib.hid hx; have HY := Lib.hid hy
            clear hx hy hPk zx zy
            have i1 : IntKind.i64.wrap ((k : Int) + 1) = (k : Int) + 1 := IntWalk.i64_in _ (by omega)
            have i3 : (k : Int) < N := by omega
            have i4 : (k : Int) + 1 < N := by omega
            have i6 : (0 : Int) ≤ (k : Int) + 1 := by omega
            have i8 : ((k : Int) + 1).toNat = k + 1 := by omega
            have hB := Below.refl V.heap.size V
            clear HC1 HC2
            go_upto_region 11 with fail
            have hB := hB.drew
            refine region_seqM (fun w' => Below V.heap.size V w') 15 [(0, 1), (1, 1), (2, 2), (3, 2), (4, 2), (5, 1), (6, 1), (7, 1), (8, 1), (9, 1), (10, 1), (11, 1), (12, 1), (13, 1), (14, 1), (15, 0), (16, 2), (17, 3)] (by kernel_rfl) (by kernel_rfl) (fun _ _ _ _ h => h) hB ?_
            try generalize World.drew _ = wS at hB ⊢
            refine sm_take (v := ?_) (a' := ?_) (some 61) rfl rfl (by rfl) ?_ ?_ ?_
            rotate_left; rotate_left
            · intro w' hS; go_simp; with_reducible rfl
            · simp only [Act.put, List.setIfInBounds_toArray, List.set_cons_zero, List.set_cons_succ]; rfl
            refine sm_take (v := ?_) (a' := ?_) (some 62) rfl rfl (by rfl) ?_ ?_ ?_
            rotate_left; rotate_left
            · intro w' hS; go_simp; with_reducible rfl
            · simp only [Act.put, List.setIfInBounds_toArray, List.set_cons_zero, List.set_cons_succ]; rfl
            refine sm_free (v := ?_) (a' := ?_) (some 63) rfl rfl (by rfl) ?_ ?_ ?_
            rotate_left; rotate_left
            · intro w'; go_simp; with_reducible rfl
            · simp only [Act.put, List.setIfInBounds_toArray, List.set_cons_zero, List.set_cons_succ]; rfl
            refine sm_free (v := ?_) (a' := ?_) (some 64) rfl rfl (by rfl) ?_ ?_ ?_
            rotate_left; rotate_left
            · intro w'; go_simp; with_reducible rfl
            · simp only [Act.put, List.setIfInBounds_toArray, List.set_cons_zero, List.set_cons_succ]; rfl
            refine sm_free (v := ?_) (a' := ?_) (some 65) rfl rfl (by rfl) ?_ ?_ ?_
            rotate_left; rotate_left
            · intro w'; go_simp; with_reducible rfl
            · simp only [Act.put, List.setIfInBounds_toArray, List.set_cons_zero, List.set_cons_succ]; rfl
            refine sm_take (v := ?_) (a' := ?_) (some 66) rfl rfl (by rfl) ?_ ?_ ?_
            rotate_left; rotate_left
            · intro w' hS; go_simp; with_reducible rfl
            · simp only [Act.put, List.setIfInBounds_toArray, List.set_cons_zero, List.set_cons_succ]; rfl
            refine sm_take (v := ?_) (a' := ?_) (some 67) rfl rfl (by rfl) ?_ ?_ ?_
            rotate_left; rotate_left
            · intro w' hS; go_simp; with_reducible rfl
            · simp only [Act.put, List.setIfInBounds_toArray, List.set_cons_zero, List.set_cons_succ]; rfl
            refine sm_take (v := ?_) (a' := ?_) (some 68) rfl rfl (by rfl) ?_ ?_ ?_
            rotate_left; rotate_left
            · intro w' hS; go_simp; with_reducible rfl
            · simp only [Act.put, List.setIfInBounds_toArray, List.set_cons_zero, List.set_cons_succ]; rfl
            refine sm_take (v := ?_) (a' := ?_) (some 69) rfl rfl (by rfl) ?_ ?_ ?_
            rotate_left; rotate_left
            · intro w' hS; go_simp; with_reducible rfl
            · simp only [Act.put, List.setIfInBounds_toArray, List.set_cons_zero, List.set_cons_succ]; rfl
            refine sm_take (v := ?_) (a' := ?_) (some 70) rfl rfl (by rfl) ?_ ?_ ?_
            rotate_left; rotate_left
            · intro w' hS; have p1 := Q1.out.below hS; have p2 := Q2.out.below hS; have a0 := p1.c0; have a1 := p1.c1; have a2 := p1.c2; have a3 := p1.c3; have a4 := p1.c4; have a5 := p1.c5; have a6 := p1.c6; have a7 := p1.c7; have b0 := p2.c0; have b1 := p2.c1; have b2 := p2.c2; have b3 := p2.c3; have b4 := p2.c4; have b5 := p2.c5; have b6 := p2.c6; have b7 := p2.c7; simp only at a0 a1 a2 a3 a4 a5 a6 a7 b0 b1 b2 b3 b4 b5 b6 b7; go_simp; with_reducible rfl
            · simp only [Act.put, List.setIfInBounds_toArray, List.set_cons_zero, List.set_cons_succ]; rfl
            refine sm_take (v := ?_) (a' := ?_) (some 71) rfl rfl (by rfl) ?_ ?_ ?_
            rotate_left; rotate_left
            · intro w' hS; go_simp; with_reducible rfl
            · simp only [Act.put, List.setIfInBounds_toArray, List.set_cons_zero, List.set_cons_succ]; rfl
            refine sm_take (v := ?_) (a' := ?_) (some 72) rfl rfl (by rfl) ?_ ?_ ?_
            rotate_left; rotate_left
            · intro w' hS; go_simp; with_reducible rfl
            · simp only [Act.put, List.setIfInBounds_toArray, List.set_cons_zero, List.set_cons_succ]; rfl
            refine sm_take (v := ?_) (a' := ?_) (some 73) rfl rfl (by rfl) ?_ ?_ ?_
            rotate_left; rotate_left
            · intro w' hS; go_simp; with_reducible rfl
            · simp only [Act.put, List.setIfInBounds_toArray, List.set_cons_zero, List.set_cons_succ]; rfl
            refine sm_take (v := ?_) (a' := ?_) (some 74) rfl rfl (by rfl) ?_ ?_ ?_
            rotate_left; rotate_left
            · intro w' hS; have p1 := Q1.out.below hS; have p2 := Q2.out.below hS; have a0 := p1.c0; have a1 := p1.c1; have a2 := p1.c2; have a3 := p1.c3; have a4 := p1.c4; have a5 := p1.c5; have a6 := p1.c6; have a7 := p1.c7; have b0 := p2.c0; have b1 := p2.c1; have b2 := p2.c2; have b3 := p2.c3; have b4 := p2.c4; have b5 := p2.c5; have b6 := p2.c6; have b7 := p2.c7; simp only at a0 a1 a2 a3 a4 a5 a6 a7 b0 b1 b2 b3 b4 b5 b6 b7; go_simp; with_reducible rfl
            · simp only [Act.put, List.setIfInBounds_toArray, List.set_cons_zero, List.set_cons_succ]; rfl
            refine sm_take (v := ?_) (a' := ?_) (some 75) rfl rfl (by rfl) ?_ ?_ ?_
            rotate_left; rotate_left
            · intro w' hS; go_simp; with_reducible rfl
            · simp only [Act.put, List.setIfInBounds_toArray, List.set_cons_zero, List.set_cons_succ]; rfl
            refine sm_store none rfl rfl (by rfl) ?_
            apply Exists.intro; apply And.intro
            · have SZ := HSW.out.read hB; have zx := SZ.at HLX.out; have zy := SZ.at HLY.out; have z0 := zx.c0; have z1 := zx.c1; have z2 := zx.c2; have z3 := zx.c3; have z4 := zx.c4; have z5 := zx.c5; have z6 := zx.c6; have z7 := zx.c7; have y0 := zy.c0; have y1 := zy.c1; have y2 := zy.c2; have y3 := zy.c3; have y4 := zy.c4; have y5 := zy.c5; have y6 := zy.c6; have y7 := zy.c7; have zf := SZ.froz; clear SZ zx zy; go_simp; first | exact ⟨rfl, rfl⟩ | rfl
            apply Exists.intro; apply And.intro
            · simp only [Act.put, List.setIfInBounds_toArray, List.set_cons_zero, List.set_cons_succ]; rfl
            apply And.intro
            · exact .inl rfl
            refine sm_free (v := ?_) (a' := ?_) (some 76) rfl rfl (by rfl) ?_ ?_ ?_
            rotate_left; rotate_left
            · intro w'; go_simp; with_reducible rfl
            · simp only [Act.put, List.setIfInBounds_toArray, List.set_cons_zero, List.set_cons_succ]; rfl
            refine sm_after none rfl rfl (by rfl) ?_
            apply Exists.intro; apply And.intro
            · have SZ := HSW.out.read hB; have zx := SZ.at HLX.out; have zy := SZ.at HLY.out; have z0 := zx.c0; have z1 := zx.c1; have z2 := zx.c2; have z3 := zx.c3; have z4 := zx.c4; have z5 := zx.c5; have z6 := zx.c6; have z7 := zx.c7; have y0 := zy.c0; have y1 := zy.c1; have y2 := zy.c2; have y3 := zy.c3; have y4 := zy.c4; have y5 := zy.c5; have y6 := zy.c6; have y7 := zy.c7; have zf := SZ.froz; clear SZ zx zy; go_simp; first | exact ⟨rfl, rfl⟩ | rfl
            apply Exists.intro; apply And.intro
            · simp only [Act.put, List.setIfInBounds_toArray, List.set_cons_zero, List.set_cons_succ]; rfl
            refine sm_done ?_
            refine name_exit ?_
            intro U hU
            have HSU := Lib.hid (show SW w0 B g N cap (swF dk k (k + 1)) U by
              rw [hU]
              have q := (HSW.out.read hB).swap HLX.out HLY.out
              rw [HX.out, HY.out] at q
              exact q)
            rw [HSTEP.out] at HSU
            clear hU hB i1 i3 i4 i6 i8
            go_wp2_with fail
            go_roundw
            case rel => exact ⟨k + 1, by simp, by omega, by omega, HSU⟩
            case measure => simp [intOf]; omega
          · have hkI : ¬ (k : Int) < (i : Int) - 1 := by omega
            have HKI := Lib.hid (show k + 1 = i by omega)
            go_wp2_with fail
            go_end0
            have hm := HMA.out
            subst hm
            have hs := HSW.out
            rw [HKI.out] at hs
            obtain ⟨r1, r2⟩ := merge_one (K := kX) (n := N) (d := d) toB (a := a) (i := i) (b := b) hi hj hb HS2.out HQ.out.1 HQ.out.2
            exact ⟨rfl, _, r1, r2, allP_rot HP.out (by omega) hi (by omega), hs⟩
  · have ht : (((m : Int) - a) == 1) = false := by (rw [beq_eq_false_iff_ne]; omega)
    by_cases hbm : b = m + 1
    · have ht2 : (((b : Int) - m) == 1) = true := by (rw [beq_iff_eq]; omega)
      have HBM := Lib.hid hbm
      clear hbm hma
      go_wp2_with fail
      clear ht ht2
      go_loopw [14, 15] (fun si sj wr => ∃ (i j : Nat), si = .int .i64 (i : Int) ∧ sj = .int .i64 (j : Int) ∧ a ≤ i ∧ i ≤ j ∧ j ≤ m ∧ Hid ((∀ y, a ≤ y → y < i → ltB (kX (d m)) (kX (d y)) = false) ∧ (∀ y, j ≤ y → y < m → ltB (kX (d m)) (kX (d y)) = true)) ∧ Hid (SW w0 B g N cap d wr)) (fun si sj _ => (intOf sj).toNat - (intOf si).toNat)
      case atStart => exact ⟨a, m, rfl, rfl, Nat.le_refl _, by omega, Nat.le_refl _, Lib.hid ⟨(fun y h1 h2 => by omega), (fun y h1 h2 => by omega)⟩, HSW0⟩
      case round =>
        obtain ⟨i, j, rfl, rfl, hi, hij, hj, HQ, HSW⟩ := hrel
        obtain ⟨V, rfl⟩ : ∃ V : World, V = wr := ⟨_, rfl⟩
        by_cases hlt : i < j
        · have hltI : (i : Int) < j := by omega
          have hjI : (j : Int) ≤ 1000000 := by omega
          obtain ⟨hx1, hx2⟩ := half hlt
          obtain ⟨k, hk⟩ : ∃ k, (i + j) / 2 = k := ⟨_, rfl⟩
          rw [hk] at hx1 hx2
          have HK := Lib.hid (show ((i : Int) + j) / 2 = (k : Int) by omega)
          clear hk
          have HLX := Lib.hid (show m < N by omega); have HLY := Lib.hid (show k < N by omega)
          have hPk := HP.out
          have hkN : (k : Int) < N := by omega
          have hoN : (m : Int) < N := by omega
          obtain ⟨zx, ax, nx, cx, ex⟩ := hPk _ HLX.out
          obtain ⟨zy, ay, ny, cy, ey⟩ := hPk _ HLY.out
          have Q1 := Lib.hid (HSW.out.at HLX.out); have Q2 := Lib.hid (HSW.out.at HLY.out)
          have HC1 := Lib.hid (fun (U : World) => cmp_calls U (hPk _ HLX.out) (hPk _ HLY.out))
          have HC2 := Lib.hid (fun (U : World) => cmp_calls U (hPk _ HLY.out) (hPk _ HLX.out))
          obtain ⟨⟨x, sx⟩, hx⟩ : ∃ p, d (m) = p := ⟨_, rfl⟩
          obtain ⟨⟨y, sy⟩, hy⟩ : ∃ p, d (k) = p := ⟨_, rfl⟩
          rw [hx] at Q1 ex HC1 HC2; rw [hy] at Q2 ey HC1 HC2
          simp only at ex ey HC1 HC2
          subst ex; subst ey
          unfold objV at HC1 HC2
          have HX := Lib.hid hx; have HY := Lib.hid hy
          clear hx hy hPk zx zy
          obtain ⟨c, hc⟩ : ∃ c, cmpO x y = c := ⟨_, rfl⟩
          have HL2 := Lib.hid (show decide (c < 0) = ltB (kX (d (m))) (kX (d (k))) by rw [← hc, cmpO_lt]; rw [HX.out, HY.out]; rfl)
          rw [hc] at HC1
          clear hc HC2
          have hB := Below.refl V.heap.size V
          go_upto_region 17 with fail
          rw [HK.out]
          by_cases hcn : c < 0
          · have HLT := Lib.hid (show ltB (kX (d m)) (kX (d k)) = true by rw [← HL2.out]; exact decide_eq_true hcn)
            have hB := hB.drew
            refine region_seq (fun w' => Below V.heap.size V w') [(0, true), (1, true), (2, true), (3, true), (4, true), (5, true), (6, true), (7, true), (8, true), (9, false), (10, true), (11, true)] (by kernel_rfl) (by kernel_rfl) (fun _ _ _ _ h => h) hB ?_
            try generalize World.drew _ = wS at hB ⊢
            refine seq_take (v := ?_) (a' := ?_) (some 92) rfl rfl (by rfl) ?_ ?_ ?_
            rotate_left; rotate_left
            · intro w' hS; go_simp; with_reducible rfl
            · simp only [Act.put, List.setIfInBounds_toArray, List.set_cons_zero, List.set_cons_succ]; rfl
            refine seq_take (v := ?_) (a' := ?_) (some 93) rfl rfl (by rfl) ?_ ?_ ?_
            rotate_left; rotate_left
            · intro w' hS; go_simp; with_reducible rfl
            · simp only [Act.put, List.setIfInBounds_toArray, List.set_cons_zero, List.set_cons_succ]; rfl
            refine seq_take (v := ?_) (a' := ?_) (some 94) rfl rfl (by rfl) ?_ ?_ ?_
            rotate_left; rotate_left
            · intro w' hS; go_simp; with_reducible rfl
            · simp only [Act.put, List.setIfInBounds_toArray, List.set_cons_zero, List.set_cons_succ]; rfl
            refine seq_take (v := ?_) (a' := ?_) (some 95) rfl rfl (by rfl) ?_ ?_ ?_
            rotate_left; rotate_left
            · intro w' hS; go_simp; with_reducible rfl
            · simp only [Act.put, List.setIfInBounds_toArray, List.set_cons_zero, List.set_cons_succ]; rfl
            refine seq_take (v := ?_) (a' := ?_) (some 96) rfl rfl (by rfl) ?_ ?_ ?_
            rotate_left; rotate_left
            · intro w' hS; have p1 := Q1.out.below hS; have p2 := Q2.out.below hS; have a0 := p1.c0; have a1 := p1.c1; have a2 := p1.c2; have a3 := p1.c3; have a4 := p1.c4; have a5 := p1.c5; have a6 := p1.c6; have a7 := p1.c7; have b0 := p2.c0; have b1 := p2.c1; have b2 := p2.c2; have b3 := p2.c3; have b4 := p2.c4; have b5 := p2.c5; have b6 := p2.c6; have b7 := p2.c7; simp only at a0 a1 a2 a3 a4 a5 a6 a7 b0 b1 b2 b3 b4 b5 b6 b7; go_simp; with_reducible rfl
            · simp only [Act.put, List.setIfInBounds_toArray, List.set_cons_zero, List.set_cons_succ]; rfl
            refine seq_take (v := ?_) (a' := ?_) (some 97) rfl rfl (by rfl) ?_ ?_ ?_
            rotate_left; rotate_left
            · intro w' hS; go_simp; with_reducible rfl
            · simp only [Act.put, List.setIfInBounds_toArray, List.set_cons_zero, List.set_cons_succ]; rfl
            refine seq_take (v := ?_) (a' := ?_) (some 98) rfl rfl (by rfl) ?_ ?_ ?_
            rotate_left; rotate_left
            · intro w' hS; go_simp; with_reducible rfl
            · simp only [Act.put, List.setIfInBounds_toArray, List.set_cons_zero, List.set_cons_succ]; rfl
            refine seq_take (v := ?_) (a' := ?_) (some 99) rfl rfl (by rfl) ?_ ?_ ?_
            rotate_left; rotate_left
            · intro w' hS; go_simp; with_reducible rfl
            · simp only [Act.put, List.setIfInBounds_toArray, List.set_cons_zero, List.set_cons_succ]; rfl
            refine seq_take (v := ?_) (a' := ?_) (some 100) rfl rfl (by rfl) ?_ ?_ ?_
            rotate_left; rotate_left
            · intro w' hS; have p1 := Q1.out.below hS; have p2 := Q2.out.below hS; have a0 := p1.c0; have a1 := p1.c1; have a2 := p1.c2; have a3 := p1.c3; have a4 := p1.c4; have a5 := p1.c5; have a6 := p1.c6; have a7 := p1.c7; have b0 := p2.c0; have b1 := p2.c1; have b2 := p2.c2; have b3 := p2.c3; have b4 := p2.c4; have b5 := p2.c5; have b6 := p2.c6; have b7 := p2.c7; simp only at a0 a1 a2 a3 a4 a5 a6 a7 b0 b1 b2 b3 b4 b5 b6 b7; go_simp; with_reducible rfl
            · simp only [Act.put, List.setIfInBounds_toArray, List.set_cons_zero, List.set_cons_succ]; rfl
            refine seq_callV (args := ?_) Try.func58 (by kernel_rfl) rfl (some 101) rfl rfl (by rfl) rfl rfl ?_ ?_
            rotate_left
            · simp only [List.map_toArray, List.map_cons, List.map_nil]; go_simp; rfl
            with_reducible refine (HC1.out _).mono ?_
            rintro e w' ⟨rfl, hb⟩
            refine ⟨_, rfl, bl_next (by repeat (first | with_reducible exact hB | refine Below.alloc ?_ (by have := hB.size; simp; omega) _ | refine bl_dN ?_ _ | refine Below.drew ?_ | refine Below.setCell ?_ (by have := hB.size; simp; omega) _)) hb, ?_⟩
            have hB := bl_next (by repeat (first | with_reducible exact hB | refine Below.alloc ?_ (by have := hB.size; simp; omega) _ | refine bl_dN ?_ _ | refine Below.drew ?_ | refine Below.setCell ?_ (by have := hB.size; simp; omega) _)) hb; clear hb
            simp only [Act.put, List.setIfInBounds_toArray, List.set_cons_zero, List.set_cons_succ]
            refine seq_take (v := ?_) (a' := ?_) (some 102) rfl rfl (by rfl) ?_ ?_ ?_
            rotate_left; rotate_left
            · intro w' hS; go_simp; with_reducible rfl
            · simp only [Act.put, List.setIfInBounds_toArray, List.set_cons_zero, List.set_cons_succ]; rfl
            refine seq_take (v := ?_) (a' := ?_) (some 103) rfl rfl (by rfl) ?_ ?_ ?_
            rotate_left; rotate_left
            · intro w' hS; go_simp; with_reducible rfl
            · simp only [Act.put, List.setIfInBounds_toArray, List.set_cons_zero, List.set_cons_succ]; rfl
            refine seq_done ?_
            go_wp2_with fail
            go_roundw
            case rel => exact ⟨i, k, rfl, rfl, by omega, by omega, by omega, Lib.hid ⟨HQ.out.1, (fun y h1 h2 => by
              rcases Nat.lt_or_ge k y with z | z
              · exact toB.lt_le HLT.out (HS1.out k y (by omega) z h2)
              · obtain rfl : y = k := by omega
                exact HLT.out)⟩, Lib.hid (HSW.out.read hB)⟩
            case measure => simp [intOf]; omega
          · have HLT := Lib.hid (show ltB (kX (d m)) (kX (d k)) = false by rw [← HL2.out]; exact decide_eq_false hcn)
            have hB := hB.drew
            refine region_seq (fun w' => Below V.heap.size V w') [(0, true), (1, true), (2, true), (3, true), (4, true), (5, true), (6, true), (7, true), (8, true), (9, false), (10, true), (11, true)] (by kernel_rfl) (by kernel_rfl) (fun _ _ _ _ h => h) hB ?_
            try generalize World.drew _ = wS at hB ⊢
            refine seq_take (v := ?_) (a' := ?_) (some 92) rfl rfl (by rfl) ?_ ?_ ?_
            rotate_left; rotate_left
            · intro w' hS; go_simp; with_reducible rfl
            · simp only [Act.put, List.setIfInBounds_toArray, List.set_cons_zero, List.set_cons_succ]; rfl
            refine seq_take (v := ?_) (a' := ?_) (some 93) rfl rfl (by rfl) ?_ ?_ ?_
            rotate_left; rotate_left
            · intro w' hS; go_simp; with_reducible rfl
            · simp only [Act.put, List.setIfInBounds_toArray, List.set_cons_zero, List.set_cons_succ]; rfl
            refine seq_take (v := ?_) (a' := ?_) (some 94) rfl rfl (by rfl) ?_ ?_ ?_
            rotate_left; rotate_left
            · intro w' hS; go_simp; with_reducible rfl
            · simp only [Act.put, List.setIfInBounds_toArray, List.set_cons_zero, List.set_cons_succ]; rfl
            refine seq_take (v := ?_) (a' := ?_) (some 95) rfl rfl (by rfl) ?_ ?_ ?_
            rotate_left; rotate_left
            · intro w' hS; go_simp; with_reducible rfl
            · simp only [Act.put, List.setIfInBounds_toArray, List.set_cons_zero, List.set_cons_succ]; rfl
            refine seq_take (v := ?_) (a' := ?_) (some 96) rfl rfl (by rfl) ?_ ?_ ?_
            rotate_left; rotate_left
            · intro w' hS; have p1 := Q1.out.below hS; have p2 := Q2.out.below hS; have a0 := p1.c0; have a1 := p1.c1; have a2 := p1.c2; have a3 := p1.c3; have a4 := p1.c4; have a5 := p1.c5; have a6 := p1.c6; have a7 := p1.c7; have b0 := p2.c0; have b1 := p2.c1; have b2 := p2.c2; have b3 := p2.c3; have b4 := p2.c4; have b5 := p2.c5; have b6 := p2.c6; have b7 := p2.c7; simp only at a0 a1 a2 a3 a4 a5 a6 a7 b0 b1 b2 b3 b4 b5 b6 b7; go_simp; with_reducible rfl
            · simp only [Act.put, List.setIfInBounds_toArray, List.set_cons_zero, List.set_cons_succ]; rfl
            refine seq_take (v := ?_) (a' := ?_) (some 97) rfl rfl (by rfl) ?_ ?_ ?_
            rotate_left; rotate_left
            · intro w' hS; go_simp; with_reducible rfl
            · simp only [Act.put, List.setIfInBounds_toArray, List.set_cons_zero, List.set_cons_succ]; rfl
            refine seq_take (v := ?_) (a' := ?_) (some 98) rfl rfl (by rfl) ?_ ?_ ?_
            rotate_left; rotate_left
            · intro w' hS; go_simp; with_reducible rfl
            · simp only [Act.put, List.setIfInBounds_toArray, List.set_cons_zero, List.set_cons_succ]; rfl
            refine seq_take (v := ?_) (a' := ?_) (some 99) rfl rfl (by rfl) ?_ ?_ ?_
            rotate_left; rotate_left
            · intro w' hS; go_simp; with_reducible rfl
            · simp only [Act.put, List.setIfInBounds_toArray, List.set_cons_zero, List.set_cons_succ]; rfl
            refine seq_take (v := ?_) (a' := ?_) (some 100) rfl rfl (by rfl) ?_ ?_ ?_
            rotate_left; rotate_left
            · intro w' hS; have p1 := Q1.out.below hS; have p2 := Q2.out.below hS; have a0 := p1.c0; have a1 := p1.c1; have a2 := p1.c2; have a3 := p1.c3; have a4 := p1.c4; have a5 := p1.c5; have a6 := p1.c6; have a7 := p1.c7; have b0 := p2.c0; have b1 := p2.c1; have b2 := p2.c2; have b3 := p2.c3; have b4 := p2.c4; have b5 := p2.c5; have b6 := p2.c6; have b7 := p2.c7; simp only at a0 a1 a2 a3 a4 a5 a6 a7 b0 b1 b2 b3 b4 b5 b6 b7; go_simp; with_reducible rfl
            · simp only [Act.put, List.setIfInBounds_toArray, List.set_cons_zero, List.set_cons_succ]; rfl
            refine seq_callV (args := ?_) Try.func58 (by kernel_rfl) rfl (some 101) rfl rfl (by rfl) rfl rfl ?_ ?_
            rotate_left
            · simp only [List.map_toArray, List.map_cons, List.map_nil]; go_simp; rfl
            with_reducible refine (HC1.out _).mono ?_
            rintro e w' ⟨rfl, hb⟩
            refine ⟨_, rfl, bl_next (by repeat (first | with_reducible exact hB | refine Below.alloc ?_ (by have := hB.size; simp; omega) _ | refine bl_dN ?_ _ | refine Below.drew ?_ | refine Below.setCell ?_ (by have := hB.size; simp; omega) _)) hb, ?_⟩
            have hB := bl_next (by repeat (first | with_reducible exact hB | refine Below.alloc ?_ (by have := hB.size; simp; omega) _ | refine bl_dN ?_ _ | refine Below.drew ?_ | refine Below.setCell ?_ (by have := hB.size; simp; omega) _)) hb; clear hb
            simp only [Act.put, List.setIfInBounds_toArray, List.set_cons_zero, List.set_cons_succ]
            refine seq_take (v := ?_) (a' := ?_) (some 102) rfl rfl (by rfl) ?_ ?_ ?_
            rotate_left; rotate_left
            · intro w' hS; go_simp; with_reducible rfl
            · simp only [Act.put, List.setIfInBounds_toArray, List.set_cons_zero, List.set_cons_succ]; rfl
            refine seq_take (v := ?_) (a' := ?_) (some 103) rfl rfl (by rfl) ?_ ?_ ?_
            rotate_left; rotate_left
            · intro w' hS; go_simp; with_reducible rfl
            · simp only [Act.put, List.setIfInBounds_toArray, List.set_cons_zero, List.set_cons_succ]; rfl
            refine seq_done ?_
            go_wp2_with fail
            go_roundw
            case rel => exact ⟨k + 1, j, by simp, rfl, by omega, by omega, by omega, Lib.hid ⟨(fun y h1 h2 => by
              rcases Nat.lt_or_ge y k with z | z
              · exact toB.le_tr (HS1.out y k h1 z (by omega)) HLT.out
              · obtain rfl : y = k := by omega
                exact HLT.out), HQ.out.2⟩, Lib.hid (HSW.out.read hB)⟩
            case measure => simp [intOf]; omega
        · obtain rfl : i = j := by omega
          have hlI : ¬ (i : Int) < i := by omega
          go_wp2_with fail
          go_loopw [17] (fun sk wr => ∃ (k : Nat), sk = .int .i64 (k : Int) ∧ i ≤ k ∧ k ≤ m ∧ Hid (SW w0 B g N cap (rot d k m (m + 1)) wr)) (fun sk _ => (intOf sk).toNat)
          case atStart => exact ⟨m, rfl, by omega, Nat.le_refl _, Lib.hid (by rw [rot_nilL d (by omega)]; exact HSW.out)⟩
          case round =>
            clear HSW
            obtain ⟨k, rfl, hk1, hk2, HSW⟩ := hrel
            obtain ⟨V, rfl⟩ : ∃ V : World, V = wr := ⟨_, rfl⟩
            by_cases hki : i < k
            · have hkI : (i : Int) < k := by omega
              have HLX := Lib.hid (show k < N by omega); have HLY := Lib.hid (show k - 1 < N by omega)
              have hPk := allP_rot HP.out (s := k) (m := m) (e := m + 1) hk2 (by omega) (by omega)
              have HSTEP := Lib.hid (show swF (rot d k m (m + 1)) k (k - 1) = rot d (k - 1) m (m + 1) by
                have q := rot_down d (k := k - 1) (m := m) (by omega)
                rwa [show k - 1 + 1 = k by omega] at q)
              generalize rot d k m (m + 1) = dk at HSW hPk HSTEP
              obtain ⟨zx, ax, nx, cx, ex⟩ := hPk _ HLX.out
              obtain ⟨zy, ay, ny, cy, ey⟩ := hPk _ HLY.out
              have Q1 := Lib.hid (HSW.out.at HLX.out); have Q2 := Lib.hid (HSW.out.at HLY.out)
              have HC1 := Lib.hid (fun (U : World) => cmp_calls U (hPk _ HLX.out) (hPk _ HLY.out))
              have HC2 := Lib.hid (fun (U : World) => cmp_calls U (hPk _ HLY.out) (hPk _ HLX.out))
              obtain ⟨⟨x, sx⟩, hx⟩ : ∃ p, dk (k) = p := ⟨_, rfl⟩
              obtain ⟨⟨y, sy⟩, hy⟩ : ∃ p, dk (k - 1) = p := ⟨_, rfl⟩
              rw [hx] at Q1 ex HC1 HC2; rw [hy] at Q2 ey HC1 HC2
              simp only at ex ey HC1 HC2
              subst ex; subst ey
              unfold objV at HC1 HC2
              have HX := Lib.hid hx; have HY := Lib.hid hy
              clear hx hy hPk zx zy
              have hk1' : ((k : Int) - 1).toNat = k - 1 := by omega
              have hk2' : (0 : Int) ≤ (k : Int) - 1 := by omega
              have hk3' : (k : Int) - 1 < N := by omega
              have hk4' : (1 : Int) ≤ k := by omega
              have hk7' : IntKind.i64.wrap ((k : Int) - 1) = (k : Int) - 1 := IntWalk.i64_in _ (by omega)
              have hk8' : (k : Int) < N := by omega
              have hk9' : 1 ≤ k := by omega
              have hB := Below.refl V.heap.size V
              clear HC1 HC2
              go_upto_region 23 with fail
              have hB := hB.drew
              refine region_seqM (fun w' => Below V.heap.size V w') 15 [(0, 1), (1, 1), (2, 2), (3, 2), (4, 2), (5, 1), (6, 1), (7, 1), (8, 1), (9, 1), (10, 1), (11, 1), (12, 1), (13, 1), (14, 1), (15, 0), (16, 2), (17, 3)] (by kernel_rfl) (by kernel_rfl) (fun _ _ _ _ h => h) hB ?_
              try generalize World.drew _ = wS at hB ⊢
              refine sm_take (v := ?_) (a' := ?_) (some 113) rfl rfl (by rfl) ?_ ?_ ?_
              rotate_left; rotate_left
              · intro w' hS; go_simp; with_reducible rfl
              · simp only [Act.put, List.setIfInBounds_toArray, List.set_cons_zero, List.set_cons_succ]; rfl
              refine sm_take (v := ?_) (a' := ?_) (some 114) rfl rfl (by rfl) ?_ ?_ ?_
              rotate_left; rotate_left
              · intro w' hS; go_simp; with_reducible rfl
              · simp only [Act.put, List.setIfInBounds_toArray, List.set_cons_zero, List.set_cons_succ]; rfl
              refine sm_free (v := ?_) (a' := ?_) (some 115) rfl rfl (by rfl) ?_ ?_ ?_
              rotate_left; rotate_left
              · intro w'; go_simp; with_reducible rfl
              · simp only [Act.put, List.setIfInBounds_toArray, List.set_cons_zero, List.set_cons_succ]; rfl
              refine sm_free (v := ?_) (a' := ?_) (some 116) rfl rfl (by rfl) ?_ ?_ ?_
              rotate_left; rotate_left
              · intro w'; go_simp; with_reducible rfl
              · simp only [Act.put, List.setIfInBounds_toArray, List.set_cons_zero, List.set_cons_succ]; rfl
              refine sm_free (v := ?_) (a' := ?_) (some 117) rfl rfl (by rfl) ?_ ?_ ?_
              rotate_left; rotate_left
              · intro w'; go_simp; with_reducible rfl
              · simp only [Act.put, List.setIfInBounds_toArray, List.set_cons_zero, List.set_cons_succ]; rfl
              refine sm_take (v := ?_) (a' := ?_) (some 118) rfl rfl (by rfl) ?_ ?_ ?_
              rotate_left; rotate_left
              · intro w' hS; go_simp; with_reducible rfl
              · simp only [Act.put, List.setIfInBounds_toArray, List.set_cons_zero, List.set_cons_succ]; rfl
              refine sm_take (v := ?_) (a' := ?_) (some 119) rfl rfl (by rfl) ?_ ?_ ?_
              rotate_left; rotate_left
              · intro w' hS; go_simp; with_reducible rfl
              · simp only [Act.put, List.setIfInBounds_toArray, List.set_cons_zero, List.set_cons_succ]; rfl
              refine sm_take (v := ?_) (a' := ?_) (some 120) rfl rfl (by rfl) ?_ ?_ ?_
              rotate_left; rotate_left
              · intro w' hS; go_simp; with_reducible rfl
              · simp only [Act.put, List.setIfInBounds_toArray, List.set_cons_zero, List.set_cons_succ]; rfl
              refine sm_take (v := ?_) (a' := ?_) (some 121) rfl rfl (by rfl) ?_ ?_ ?_
              rotate_left; rotate_left
              · intro w' hS; go_simp; with_reducible rfl
              · simp only [Act.put, List.setIfInBounds_toArray, List.set_cons_zero, List.set_cons_succ]; rfl
              refine sm_take (v := ?_) (a' := ?_) (some 122) rfl rfl (by rfl) ?_ ?_ ?_
              rotate_left; rotate_left
              · intro w' hS; have p1 := Q1.out.below hS; have p2 := Q2.out.below hS; have a0 := p1.c0; have a1 := p1.c1; have a2 := p1.c2; have a3 := p1.c3; have a4 := p1.c4; have a5 := p1.c5; have a6 := p1.c6; have a7 := p1.c7; have b0 := p2.c0; have b1 := p2.c1; have b2 := p2.c2; have b3 := p2.c3; have b4 := p2.c4; have b5 := p2.c5; have b6 := p2.c6; have b7 := p2.c7; simp only at a0 a1 a2 a3 a4 a5 a6 a7 b0 b1 b2 b3 b4 b5 b6 b7; go_simp; with_reducible rfl
              · simp only [Act.put, List.setIfInBounds_toArray, List.set_cons_zero, List.set_cons_succ]; rfl
              refine sm_take (v := ?_) (a' := ?_) (some 123) rfl rfl (by rfl) ?_ ?_ ?_
              rotate_left; rotate_left
              · intro w' hS; go_simp; with_reducible rfl
              · simp only [Act.put, List.setIfInBounds_toArray, List.set_cons_zero, List.set_cons_succ]; rfl
              refine sm_take (v := ?_) (a' := ?_) (some 124) rfl rfl (by rfl) ?_ ?_ ?_
              rotate_left; rotate_left
              · intro w' hS; go_simp; with_reducible rfl
              · simp only [Act.put, List.setIfInBounds_toArray, List.set_cons_zero, List.set_cons_succ]; rfl
              refine sm_take (v := ?_) (a' := ?_) (some 125) rfl rfl (by rfl) ?_ ?_ ?_
              rotate_left; rotate_left
              · intro w' hS; go_simp; with_reducible rfl
              · simp only [Act.put, List.setIfInBounds_toArray, List.set_cons_zero, List.set_cons_succ]; rfl
              refine sm_take (v := ?_) (a' := ?_) (some 126) rfl rfl (by rfl) ?_ ?_ ?_
              rotate_left; rotate_left
              · intro w' hS; have p1 := Q1.out.below hS; have p2 := Q2.out.below hS; have a0 := p1.c0; have a1 := p1.c1; have a2 := p1.c2; have a3 := p1.c3; have a4 := p1.c4; have a5 := p1.c5; have a6 := p1.c6; have a7 := p1.c7; have b0 := p2.c0; have b1 := p2.c1; have b2 := p2.c2; have b3 := p2.c3; have b4 := p2.c4; have b5 := p2.c5; have b6 := p2.c6; have b7 := p2.c7; simp only at a0 a1 a2 a3 a4 a5 a6 a7 b0 b1 b2 b3 b4 b5 b6 b7; go_simp; with_reducible rfl
              · simp only [Act.put, List.setIfInBounds_toArray, List.set_cons_zero, List.set_cons_succ]; rfl
              refine sm_take (v := ?_) (a' := ?_) (some 127) rfl rfl (by rfl) ?_ ?_ ?_
              rotate_left; rotate_left
              · intro w' hS; go_simp; with_reducible rfl
              · simp only [Act.put, List.setIfInBounds_toArray, List.set_cons_zero, List.set_cons_succ]; rfl
              refine sm_store none rfl rfl (by rfl) ?_
              apply Exists.intro; apply And.intro
              · have SZ := HSW.out.read hB; have zx := SZ.at HLX.out; have zy := SZ.at HLY.out; have z0 := zx.c0; have z1 := zx.c1; have z2 := zx.c2; have z3 := zx.c3; have z4 := zx.c4; have z5 := zx.c5; have z6 := zx.c6; have z7 := zx.c7; have y0 := zy.c0; have y1 := zy.c1; have y2 := zy.c2; have y3 := zy.c3; have y4 := zy.c4; have y5 := zy.c5; have y6 := zy.c6; have y7 := zy.c7; have zf := SZ.froz; clear SZ zx zy; go_simp; first | exact ⟨rfl, rfl⟩ | rfl
              apply Exists.intro; apply And.intro
              · simp only [Act.put, List.setIfInBounds_toArray, List.set_cons_zero, List.set_cons_succ]; rfl
              apply And.intro
              · exact .inl rfl
              refine sm_free (v := ?_) (a' := ?_) (some 128) rfl rfl (by rfl) ?_ ?_ ?_
              rotate_left; rotate_left
              · intro w'; go_simp; with_reducible rfl
              · simp only [Act.put, List.setIfInBounds_toArray, List.set_cons_zero, List.set_cons_succ]; rfl
              refine sm_after none rfl rfl (by rfl) ?_
              apply Exists.intro; apply And.intro
              · have SZ := HSW.out.read hB; have zx := SZ.at HLX.out; have zy := SZ.at HLY.out; have z0 := zx.c0; have z1 := zx.c1; have z2 := zx.c2; have z3 := zx.c3; have z4 := zx.c4; have z5 := zx.c5; have z6 := zx.c6; have z7 := zx.c7; have y0 := zy.c0; have y1 := zy.c1; have y2 := zy.c2; have y3 := zy.c3; have y4 := zy.c4; have y5 := zy.c5; have y6 := zy.c6; have y7 := zy.c7; have zf := SZ.froz; clear SZ zx zy; go_simp; first | exact ⟨rfl, rfl⟩ | rfl
              apply Exists.intro; apply And.intro
              · simp only [Act.put, List.setIfInBounds_toArray, List.set_cons_zero, List.set_cons_succ]; rfl
              refine sm_done ?_
              refine name_exit ?_
              intro U hU
              have HSU := Lib.hid (show SW w0 B g N cap (swF dk k (k - 1)) U by
                rw [hU]
                have q := (HSW.out.read hB).swap HLX.out HLY.out
                rw [HX.out, HY.out] at q
                exact q)
              rw [HSTEP.out] at HSU
              clear hU hB hk1' hk2' hk3' hk7'
              go_wp2_with fail
              go_roundw
              case rel => exact ⟨k - 1, by (rw [show ((k - 1 : Nat) : Int) = (k : Int) - 1 by omega]), by omega, by omega, HSU⟩
              case measure => simp [intOf]; omega
            · have hkI : ¬ (i : Int) < k := by omega
              have HKI := Lib.hid (show k = i by omega)
              go_wp2_with fail
              go_end0
              have hm := HBM.out
              subst hm
              have hs := HSW.out
              rw [HKI.out] at hs
              obtain ⟨r1, r2⟩ := merge_last (K := kX) (n := N) (d := d) toB (a := a) (i := i) (m := m) hi hj hb HS1.out HQ.out.1 HQ.out.2
              exact ⟨rfl, _, r1, r2, allP_rot HP.out hj (by omega) hb, hs⟩
    · have ht2 : (((b : Int) - m) == 1) = false := by (rw [beq_eq_false_iff_ne]; omega)
      obtain ⟨mid, hmid0⟩ : ∃ mid, (a + b) / 2 = mid := ⟨_, rfl⟩
      have hmd1 : a ≤ mid := by omega
      have hmd2 : mid < b := by omega
      have hmd3 : a < mid := by omega
      have HMD := Lib.hid (show ((a : Int) + b) / 2 = (mid : Int) by omega)
      have HM2 := Lib.hid (show 2 * mid ≤ a + b ∧ a + b ≤ 2 * mid + 1 by omega)
      clear hmid0
      have p1 : (a : Int) ≤ 1000000 := by omega
      have p2 : (mid : Int) ≤ 1000000 := by omega
      have p3 : (m : Int) ≤ 1000000 := by omega
      have p4 : (1 : Int) ≤ m := by omega
      go_upto_region 25 with fail
      rw [HMD.out]
      have HHMA := Lib.hid hma; have HHBM := Lib.hid hbm
      clear ht ht2 hma hbm
      by_cases hmm : mid < m
      · have hmI : (mid : Int) < m := by omega
        obtain ⟨st0, hst0⟩ : ∃ s, mid + m - b = s := ⟨_, rfl⟩
        obtain ⟨r0, hr0⟩ : ∃ r, r = mid := ⟨_, rfl⟩
        obtain ⟨hM2, hM3⟩ := HM2.out
        have hstx : a ≤ st0 := by omega
        have hsr0 : st0 ≤ r0 := by omega
        have p5 : (b : Int) ≤ (mid : Int) + m := by omega
        have HST0 := Lib.hid (show ((st0 : Nat) : Int) = (mid : Int) + m - b by omega)
        have HE0 := Lib.hid hst0; have HR0 := Lib.hid hr0
        have hq1 : r0 ≤ mid := by omega
        have hq2 : mid ≤ r0 := by omega
        have hq3 : st0 + b = mid + m := by omega
        have hq4 : r0 ≤ m := by omega
        clear hst0 hr0
        go_wp2_with fail
        go_loopw [20, 21] (fun ss sr wr => ∃ (st r : Nat), ss = .int .i64 (st : Int) ∧ sr = .int .i64 (r : Int) ∧ st0 ≤ st ∧ st ≤ r ∧ r ≤ r0 ∧ Hid ((st = st0 ∨ ltB (kX (d (mid + m - st))) (kX (d (st - 1))) = false) ∧ (r = r0 ∨ ltB (kX (d (mid + m - 1 - r))) (kX (d r)) = true)) ∧ Hid (SW w0 B g N cap d wr)) (fun ss sr _ => (intOf sr).toNat - (intOf ss).toNat)
        case atStart => exact ⟨st0, r0, by (rw [HST0.out]), by rw [HR0.out], Nat.le_refl _, hsr0, Nat.le_refl _, Lib.hid ⟨.inl rfl, .inl rfl⟩, HSW0⟩
        case round =>
          obtain ⟨i, j, rfl, rfl, hi, hij, hj, HQ, HSW⟩ := hrel
          obtain ⟨V, rfl⟩ : ∃ V : World, V = wr := ⟨_, rfl⟩
          by_cases hlt : i < j
          · have hltI : (i : Int) < j := by omega
            have hjI : (j : Int) ≤ 1000000 := by omega
            obtain ⟨hx1, hx2⟩ := half hlt
            obtain ⟨k, hk⟩ : ∃ k, (i + j) / 2 = k := ⟨_, rfl⟩
            rw [hk] at hx1 hx2
            have HK := Lib.hid (show ((i : Int) + j) / 2 = (k : Int) by omega)
            clear hk
            have HLX := Lib.hid (show mid + m - 1 - k < N by omega); have HLY := Lib.hid (show k < N by omega)
            have hPk := HP.out
            obtain ⟨zx, ax, nx, cx, ex⟩ := hPk _ HLX.out
            obtain ⟨zy, ay, ny, cy, ey⟩ := hPk _ HLY.out
            have Q1 := Lib.hid (HSW.out.at HLX.out); have Q2 := Lib.hid (HSW.out.at HLY.out)
            have HC1 := Lib.hid (fun (U : World) => cmp_calls U (hPk _ HLX.out) (hPk _ HLY.out))
            have HC2 := Lib.hid (fun (U : World) => cmp_calls U (hPk _ HLY.out) (hPk _ HLX.out))
            obtain ⟨⟨x, sx⟩, hx⟩ : ∃ p, d (mid + m - 1 - k) = p := ⟨_, rfl⟩
            obtain ⟨⟨y, sy⟩, hy⟩ : ∃ p, d (k) = p := ⟨_, rfl⟩
            rw [hx] at Q1 ex HC1 HC2; rw [hy] at Q2 ey HC1 HC2
            simp only at ex ey HC1 HC2
            subst ex; subst ey
            unfold objV at HC1 HC2
            have HX := Lib.hid hx; have HY := Lib.hid hy
            clear hx hy hPk zx zy
            have i1 : IntKind.i64.wrap ((mid : Int) + m - 1 - k) = (mid : Int) + m - 1 - k := IntWalk.i64_in _ (by omega)
            have i2 : (0 : Int) ≤ (mid : Int) + m - 1 - k := by omega
            have i3 : (mid : Int) + m - 1 - k < N := by omega
            have i4 : ((mid : Int) + m - 1 - k).toNat = mid + m - 1 - k := by omega
            have i5 : (k : Int) < N := by omega
            have i6 : (k : Int) ≤ (mid : Int) + m - 1 := by omega
            obtain ⟨c, hc⟩ : ∃ c, cmpO x y = c := ⟨_, rfl⟩
            have HL2 := Lib.hid (show decide (c < 0) = ltB (kX (d (mid + m - 1 - k))) (kX (d k)) by rw [← hc, cmpO_lt]; rw [HX.out, HY.out]; rfl)
            rw [hc] at HC1
            clear hc HC2
            have hB := Below.refl V.heap.size V
            go_upto_region 35 with fail
            rw [HK.out]
            by_cases hcn : c < 0
            · have HLT := Lib.hid (show ltB (kX (d (mid + m - 1 - k))) (kX (d k)) = true by rw [← HL2.out]; exact decide_eq_true hcn)
              have hB := hB.drew
              refine region_seq (fun w' => Below V.heap.size V w') [(0, true), (1, true), (2, true), (3, true), (4, true), (5, true), (6, true), (7, true), (8, true), (9, true), (10, true), (11, false), (12, true), (13, true)] (by kernel_rfl) (by kernel_rfl) (fun _ _ _ _ h => h) hB ?_
              try generalize World.drew _ = wS at hB ⊢
              refine seq_take (v := ?_) (a' := ?_) (some 158) rfl rfl (by rfl) ?_ ?_ ?_
              rotate_left; rotate_left
              · intro w' hS; go_simp; with_reducible rfl
              · simp only [Act.put, List.setIfInBounds_toArray, List.set_cons_zero, List.set_cons_succ]; rfl
              refine seq_take (v := ?_) (a' := ?_) (some 159) rfl rfl (by rfl) ?_ ?_ ?_
              rotate_left; rotate_left
              · intro w' hS; go_simp; with_reducible rfl
              · simp only [Act.put, List.setIfInBounds_toArray, List.set_cons_zero, List.set_cons_succ]; rfl
              refine seq_take (v := ?_) (a' := ?_) (some 160) rfl rfl (by rfl) ?_ ?_ ?_
              rotate_left; rotate_left
              · intro w' hS; go_simp; with_reducible rfl
              · simp only [Act.put, List.setIfInBounds_toArray, List.set_cons_zero, List.set_cons_succ]; rfl
              refine seq_take (v := ?_) (a' := ?_) (some 161) rfl rfl (by rfl) ?_ ?_ ?_
              rotate_left; rotate_left
              · intro w' hS; go_simp; with_reducible rfl
              · simp only [Act.put, List.setIfInBounds_toArray, List.set_cons_zero, List.set_cons_succ]; rfl
              refine seq_take (v := ?_) (a' := ?_) (some 162) rfl rfl (by rfl) ?_ ?_ ?_
              rotate_left; rotate_left
              · intro w' hS; go_simp; with_reducible rfl
              · simp only [Act.put, List.setIfInBounds_toArray, List.set_cons_zero, List.set_cons_succ]; rfl
              refine seq_take (v := ?_) (a' := ?_) (some 163) rfl rfl (by rfl) ?_ ?_ ?_
              rotate_left; rotate_left
              · intro w' hS; go_simp; with_reducible rfl
              · simp only [Act.put, List.setIfInBounds_toArray, List.set_cons_zero, List.set_cons_succ]; rfl
              refine seq_take (v := ?_) (a' := ?_) (some 164) rfl rfl (by rfl) ?_ ?_ ?_
              rotate_left; rotate_left
              · intro w' hS; have p1 := Q1.out.below hS; have p2 := Q2.out.below hS; have a0 := p1.c0; have a1 := p1.c1; have a2 := p1.c2; have a3 := p1.c3; have a4 := p1.c4; have a5 := p1.c5; have a6 := p1.c6; have a7 := p1.c7; have b0 := p2.c0; have b1 := p2.c1; have b2 := p2.c2; have b3 := p2.c3; have b4 := p2.c4; have b5 := p2.c5; have b6 := p2.c6; have b7 := p2.c7; simp only at a0 a1 a2 a3 a4 a5 a6 a7 b0 b1 b2 b3 b4 b5 b6 b7; go_simp; with_reducible rfl
              · simp only [Act.put, List.setIfInBounds_toArray, List.set_cons_zero, List.set_cons_succ]; rfl
              refine seq_take (v := ?_) (a' := ?_) (some 165) rfl rfl (by rfl) ?_ ?_ ?_
              rotate_left; rotate_left
              · intro w' hS; go_simp; with_reducible rfl
              · simp only [Act.put, List.setIfInBounds_toArray, List.set_cons_zero, List.set_cons_succ]; rfl
              refine seq_take (v := ?_) (a' := ?_) (some 166) rfl rfl (by rfl) ?_ ?_ ?_
              rotate_left; rotate_left
              · intro w' hS; go_simp; with_reducible rfl
              · simp only [Act.put, List.setIfInBounds_toArray, List.set_cons_zero, List.set_cons_succ]; rfl
              refine seq_take (v := ?_) (a' := ?_) (some 167) rfl rfl (by rfl) ?_ ?_ ?_
              rotate_left; rotate_left
              · intro w' hS; go_simp; with_reducible rfl
              · simp only [Act.put, List.setIfInBounds_toArray, List.set_cons_zero, List.set_cons_succ]; rfl
              refine seq_take (v := ?_) (a' := ?_) (some 168) rfl rfl (by rfl) ?_ ?_ ?_
              rotate_left; rotate_left
              · intro w' hS; have p1 := Q1.out.below hS; have p2 := Q2.out.below hS; have a0 := p1.c0; have a1 := p1.c1; have a2 := p1.c2; have a3 := p1.c3; have a4 := p1.c4; have a5 := p1.c5; have a6 := p1.c6; have a7 := p1.c7; have b0 := p2.c0; have b1 := p2.c1; have b2 := p2.c2; have b3 := p2.c3; have b4 := p2.c4; have b5 := p2.c5; have b6 := p2.c6; have b7 := p2.c7; simp only at a0 a1 a2 a3 a4 a5 a6 a7 b0 b1 b2 b3 b4 b5 b6 b7; go_simp; with_reducible rfl
              · simp only [Act.put, List.setIfInBounds_toArray, List.set_cons_zero, List.set_cons_succ]; rfl
              refine seq_callV (args := ?_) Try.func58 (by kernel_rfl) rfl (some 169) rfl rfl (by rfl) rfl rfl ?_ ?_
              rotate_left
              · simp only [List.map_toArray, List.map_cons, List.map_nil]; go_simp; rfl
              with_reducible refine (HC1.out _).mono ?_
              rintro e w' ⟨rfl, hb⟩
              refine ⟨_, rfl, bl_next (by repeat (first | with_reducible exact hB | refine Below.alloc ?_ (by have := hB.size; simp; omega) _ | refine bl_dN ?_ _ | refine Below.drew ?_ | refine Below.setCell ?_ (by have := hB.size; simp; omega) _)) hb, ?_⟩
              have hB := bl_next (by repeat (first | with_reducible exact hB | refine Below.alloc ?_ (by have := hB.size; simp; omega) _ | refine bl_dN ?_ _ | refine Below.drew ?_ | refine Below.setCell ?_ (by have := hB.size; simp; omega) _)) hb; clear hb
              simp only [Act.put, List.setIfInBounds_toArray, List.set_cons_zero, List.set_cons_succ]
              refine seq_take (v := ?_) (a' := ?_) (some 170) rfl rfl (by rfl) ?_ ?_ ?_
              rotate_left; rotate_left
              · intro w' hS; go_simp; with_reducible rfl
              · simp only [Act.put, List.setIfInBounds_toArray, List.set_cons_zero, List.set_cons_succ]; rfl
              refine seq_take (v := ?_) (a' := ?_) (some 171) rfl rfl (by rfl) ?_ ?_ ?_
              rotate_left; rotate_left
              · intro w' hS; go_simp; with_reducible rfl
              · simp only [Act.put, List.setIfInBounds_toArray, List.set_cons_zero, List.set_cons_succ]; rfl
              refine seq_done ?_
              clear i1 i2 i3 i4 i6
              go_wp2_with fail
              go_roundw
              case rel => exact ⟨i, k, rfl, rfl, by omega, by omega, by omega, Lib.hid ⟨HQ.out.1, .inr HLT.out⟩, Lib.hid (HSW.out.read hB)⟩
              case measure => simp [intOf]; omega
            · have HLT := Lib.hid (show ltB (kX (d (mid + m - 1 - k))) (kX (d k)) = false by rw [← HL2.out]; exact decide_eq_false hcn)
              have hB := hB.drew
              refine region_seq (fun w' => Below V.heap.size V w') [(0, true), (1, true), (2, true), (3, true), (4, true), (5, true), (6, true), (7, true), (8, true), (9, true), (10, true), (11, false), (12, true), (13, true)] (by kernel_rfl) (by kernel_rfl) (fun _ _ _ _ h => h) hB ?_
              try generalize World.drew _ = wS at hB ⊢
              refine seq_take (v := ?_) (a' := ?_) (some 158) rfl rfl (by rfl) ?_ ?_ ?_
              rotate_left; rotate_left
              · intro w' hS; go_simp; with_reducible rfl
              · simp only [Act.put, List.setIfInBounds_toArray, List.set_cons_zero, List.set_cons_succ]; rfl
              refine seq_take (v := ?_) (a' := ?_) (some 159) rfl rfl (by rfl) ?_ ?_ ?_
              rotate_left; rotate_left
              · intro w' hS; go_simp; with_reducible rfl
              · simp only [Act.put, List.setIfInBounds_toArray, List.set_cons_zero, List.set_cons_succ]; rfl
              refine seq_take (v := ?_) (a' := ?_) (some 160) rfl rfl (by rfl) ?_ ?_ ?_
              rotate_left; rotate_left
              · intro w' hS; go_simp; with_reducible rfl
              · simp only [Act.put, List.setIfInBounds_toArray, List.set_cons_zero, List.set_cons_succ]; rfl
              refine seq_take (v := ?_) (a' := ?_) (some 161) rfl rfl (by rfl) ?_ ?_ ?_
              rotate_left; rotate_left
              · intro w' hS; go_simp; with_reducible rfl
              · simp only [Act.put, List.setIfInBounds_toArray, List.set_cons_zero, List.set_cons_succ]; rfl
              refine seq_take (v := ?_) (a' := ?_) (some 162) rfl rfl (by rfl) ?_ ?_ ?_
              rotate_left; rotate_left
              · intro w' hS; go_simp; with_reducible rfl
              · simp only [Act.put, List.setIfInBounds_toArray, List.set_cons_zero, List.set_cons_succ]; rfl
              refine seq_take (v := ?_) (a' := ?_) (some 163) rfl rfl (by rfl) ?_ ?_ ?_
              rotate_left; rotate_left
              · intro w' hS; go_simp; with_reducible rfl
              · simp only [Act.put, List.setIfInBounds_toArray, List.set_cons_zero, List.set_cons_succ]; rfl
              refine seq_take (v := ?_) (a' := ?_) (some 164) rfl rfl (by rfl) ?_ ?_ ?_
              rotate_left; rotate_left
              · intro w' hS; have p1 := Q1.out.below hS; have p2 := Q2.out.below hS; have a0 := p1.c0; have a1 := p1.c1; have a2 := p1.c2; have a3 := p1.c3; have a4 := p1.c4; have a5 := p1.c5; have a6 := p1.c6; have a7 := p1.c7; have b0 := p2.c0; have b1 := p2.c1; have b2 := p2.c2; have b3 := p2.c3; have b4 := p2.c4; have b5 := p2.c5; have b6 := p2.c6; have b7 := p2.c7; simp only at a0 a1 a2 a3 a4 a5 a6 a7 b0 b1 b2 b3 b4 b5 b6 b7; go_simp; with_reducible rfl
              · simp only [Act.put, List.setIfInBounds_toArray, List.set_cons_zero, List.set_cons_succ]; rfl
              refine seq_take (v := ?_) (a' := ?_) (some 165) rfl rfl (by rfl) ?_ ?_ ?_
              rotate_left; rotate_left
              · intro w' hS; go_simp; with_reducible rfl
              · simp only [Act.put, List.setIfInBounds_toArray, List.set_cons_zero, List.set_cons_succ]; rfl
              refine seq_take (v := ?_) (a' := ?_) (some 166) rfl rfl (by rfl) ?_ ?_ ?_
              rotate_left; rotate_left
              · intro w' hS; go_simp; with_reducible rfl
              · simp only [Act.put, List.setIfInBounds_toArray, List.set_cons_zero, List.set_cons_succ]; rfl
              refine seq_take (v := ?_) (a' := ?_) (some 167) rfl rfl (by rfl) ?_ ?_ ?_
              rotate_left; rotate_left
              · intro w' hS; go_simp; with_reducible rfl
              · simp only [Act.put, List.setIfInBounds_toArray, List.set_cons_zero, List.set_cons_succ]; rfl
              refine seq_take (v := ?_) (a' := ?_) (some 168) rfl rfl (by rfl) ?_ ?_ ?_
              rotate_left; rotate_left
              · intro w' hS; have p1 := Q1.out.below hS; have p2 := Q2.out.below hS; have a0 := p1.c0; have a1 := p1.c1; have a2 := p1.c2; have a3 := p1.c3; have a4 := p1.c4; have a5 := p1.c5; have a6 := p1.c6; have a7 := p1.c7; have b0 := p2.c0; have b1 := p2.c1; have b2 := p2.c2; have b3 := p2.c3; have b4 := p2.c4; have b5 := p2.c5; have b6 := p2.c6; have b7 := p2.c7; simp only at a0 a1 a2 a3 a4 a5 a6 a7 b0 b1 b2 b3 b4 b5 b6 b7; go_simp; with_reducible rfl
              · simp only [Act.put, List.setIfInBounds_toArray, List.set_cons_zero, List.set_cons_succ]; rfl
              refine seq_callV (args := ?_) Try.func58 (by kernel_rfl) rfl (some 169) rfl rfl (by rfl) rfl rfl ?_ ?_
              rotate_left
              · simp only [List.map_toArray, List.map_cons, List.map_nil]; go_simp; rfl
              with_reducible refine (HC1.out _).mono ?_
              rintro e w' ⟨rfl, hb⟩
              refine ⟨_, rfl, bl_next (by repeat (first | with_reducible exact hB | refine Below.alloc ?_ (by have := hB.size; simp; omega) _ | refine bl_dN ?_ _ | refine Below.drew ?_ | refine Below.setCell ?_ (by have := hB.size; simp; omega) _)) hb, ?_⟩
              have hB := bl_next (by repeat (first | with_reducible exact hB | refine Below.alloc ?_ (by have := hB.size; simp; omega) _ | refine bl_dN ?_ _ | refine Below.drew ?_ | refine Below.setCell ?_ (by have := hB.size; simp; omega) _)) hb; clear hb
              simp only [Act.put, List.setIfInBounds_toArray, List.set_cons_zero, List.set_cons_succ]
              refine seq_take (v := ?_) (a' := ?_) (some 170) rfl rfl (by rfl) ?_ ?_ ?_
              rotate_left; rotate_left
              · intro w' hS; go_simp; with_reducible rfl
              · simp only [Act.put, List.setIfInBounds_toArray, List.set_cons_zero, List.set_cons_succ]; rfl
              refine seq_take (v := ?_) (a' := ?_) (some 171) rfl rfl (by rfl) ?_ ?_ ?_
              rotate_left; rotate_left
              · intro w' hS; go_simp; with_reducible rfl
              · simp only [Act.put, List.setIfInBounds_toArray, List.set_cons_zero, List.set_cons_succ]; rfl
              refine seq_done ?_
              clear i1 i2 i3 i4 i6
              go_wp2_with fail
              go_roundw
              case rel => exact ⟨k + 1, j, by simp, rfl, by omega, by omega, by omega, Lib.hid ⟨.inr (by have q := HLT.out; rwa [show mid + m - 1 - k = mid + m - (k + 1) by omega] at q), HQ.out.2⟩, Lib.hid (HSW.out.read hB)⟩
              case measure => simp [intOf]; omega
          · obtain rfl : i = j := by omega
            have hlI : ¬ (i : Int) < i := by omega
            obtain ⟨en, hen⟩ : ∃ en, mid + m - i = en := ⟨_, rfl⟩
            have him : i ≤ m := by omega
            have hme : m ≤ en := by omega
            have heb : en ≤ b := by omega
            have hmid : i + (en - m) = mid := by omega
            have himd : i ≤ mid := by omega
            have hmde : mid ≤ en := by omega
            have HEN := Lib.hid (show (mid : Int) + m - i = (en : Int) by omega)
            have q1 : (i : Int) ≤ (mid : Int) + m := by omega
            have q2 : (i : Int) ≤ 1000000 := by omega
            obtain ⟨r1, r2, r3, r4, r5, r6⟩ := merge_halves (K := kX) (n := N) (d := d) toB (a := a) (s := i) (m := m) (e := en) (b := b) (by omega) him hme heb hb HS1.out HS2.out
              (fun z1 z2 => by
                rcases HQ.out.2 with e | e
                · exfalso; omega
                · rwa [show mid + m - 1 - i = en - 1 by omega] at e)
              (fun z1 z2 => by
                rcases HQ.out.1 with e | e
                · exfalso; omega
                · rwa [hen] at e)
            rw [hmid] at r3 r4 r6
            have HR1 := Lib.hid r1; have HR2 := Lib.hid r2; have HR3 := Lib.hid r3; have HR4 := Lib.hid r4; have HR5 := Lib.hid r5; have HR6 := Lib.hid r6
            clear r1 r2 r3 r4 r5 r6
            have HPR := Lib.hid (allP_rot HP.out him hme (show en ≤ N by omega))
            have HHM := Lib.hid hmid; have HHE := Lib.hid hen
            clear hmid hen
            go_upto_region 39 with fail
            rw [HEN.out]
            obtain ⟨V, rfl⟩ : ∃ U : World, U = V := ⟨_, rfl⟩
            have hro : (i < m ∧ m < en) ∨ (i < m ∧ ¬ m < en) ∨ ¬ i < m := by omega
            rcases hro with hr | hr | hr
            · obtain ⟨g1, g2⟩ := hr
              have g1R : (i : Int) < m := by omega
              have g2R : (m : Int) < en := by omega
              have HC := Lib.hid (rotate_calls HSW.out HP.out g1 g2 (show en ≤ N by omega) hN (.func (.func 58) #[] #[]))
              go_upto_region 41 with (go_at_call 116; refine HC.out.mono ?_; rintro e w2 ⟨rfl, e1⟩; have HSW1 := Lib.hid e1; clear e1)
              clear HC
              have hl3 : (a < i ∧ i < mid) ∨ (a < i ∧ ¬ i < mid) ∨ ¬ a < i := by omega
              rcases hl3 with hl | hl | hl
              · obtain ⟨g1, g2⟩ := hl
                have g1L : (a : Int) < i := by omega
                have g2L : (i : Int) < mid := by omega
                have HC := Lib.hid (IH.out w0 _ B g N cap _ a i mid (by omega) g1 g2 (by omega) hN HSW1.out HPR.out HR2.out HR3.out)
                go_upto_region 43 with (go_at_call 105; refine HC.out.mono ?_; rintro e w3 ⟨rfl, D2, e1, e2, e3, e4⟩; have HW1 := Lib.hid e1; have HZ1 := Lib.hid e2; have HP2 := Lib.hid e3; have HSW2 := Lib.hid e4; clear e1 e2 e3 e4)
                clear HC
                have hr3 : (mid < en ∧ en < b) ∨ (mid < en ∧ ¬ en < b) ∨ ¬ mid < en := by omega
                rcases hr3 with hr | hr | hr
                · obtain ⟨g1, g2⟩ := hr
                  have g1I : (mid : Int) < en := by omega
                  have g2I : (en : Int) < b := by omega
                  have HC := Lib.hid (IH.out w0 _ B g N cap _ mid en b (by omega) g1 g2 hb hN HSW2.out HP2.out (srt_same HR4.out (fun y z1 z2 => HW1.out.out y (.inr z1))) (srt_same HR5.out (fun y z1 z2 => HW1.out.out y (.inr (by omega)))))
                  go_wp2_with (go_at_call 105; refine HC.out.mono ?_; rintro e w4 ⟨rfl, D3, e1, e2, e3, e4⟩; have HW2 := Lib.hid e1; have HZ2 := Lib.hid e2; have HP3 := Lib.hid e3; have HSW3 := Lib.hid e4; clear e1 e2 e3 e4)
                  go_end0
                  obtain ⟨f1, f2⟩ := merge_join (K := kX) (n := N) (d := rot d i m en) (a := a) (mid := mid) (b := b) HW1.out HW2.out (by omega) (by omega) hb HZ1.out HZ2.out HR6.out
                  exact ⟨rfl, _, HR1.out.trans f1, f2, HP3.out, HSW3.out⟩
                · obtain ⟨g1, g2⟩ := hr
                  have g1I : (mid : Int) < en := by omega
                  have g2I : ¬ (en : Int) < b := by omega
                  have HZ2 : Hid (SrtF kX ltB D2 mid b) := Lib.hid (by (have z : b = en := by omega); rw [z]; exact srt_same HR4.out (fun y z1 z2 => HW1.out.out y (.inr z1)))
                  have HW2 := Lib.hid (Wk.refl (K := kX) (n := N) D2 mid b); have HP3 := HP2; have HSW3 := HSW2
                  go_wp2_with fail
                  go_end0
                  obtain ⟨f1, f2⟩ := merge_join (K := kX) (n := N) (d := rot d i m en) (a := a) (mid := mid) (b := b) HW1.out HW2.out (by omega) (by omega) hb HZ1.out HZ2.out HR6.out
                  exact ⟨rfl, _, HR1.out.trans f1, f2, HP3.out, HSW3.out⟩
                · have g1 := hr
                  have g1I : ¬ (mid : Int) < en := by omega
                  have HZ2 : Hid (SrtF kX ltB D2 mid b) := Lib.hid (by (have z : mid = en := by omega); rw [z]; exact srt_same HR5.out (fun y z1 z2 => HW1.out.out y (.inr (by omega))))
                  have HW2 := Lib.hid (Wk.refl (K := kX) (n := N) D2 mid b); have HP3 := HP2; have HSW3 := HSW2
                  go_wp2_with fail
                  go_end0
                  obtain ⟨f1, f2⟩ := merge_join (K := kX) (n := N) (d := rot d i m en) (a := a) (mid := mid) (b := b) HW1.out HW2.out (by omega) (by omega) hb HZ1.out HZ2.out HR6.out
                  exact ⟨rfl, _, HR1.out.trans f1, f2, HP3.out, HSW3.out⟩
              · obtain ⟨g1, g2⟩ := hl
                have g1L : (a : Int) < i := by omega
                have g2L : ¬ (i : Int) < mid := by omega
                have HZ1 : Hid (SrtF kX ltB (rot d i m en) a mid) := Lib.hid (by (have z : mid = i := by omega); rw [z]; exact HR2.out)
                obtain ⟨D2, hD2⟩ : ∃ D2, D2 = rot d i m en := ⟨_, rfl⟩
                have HW1 : Hid (Wk kX N (rot d i m en) D2 a mid) := Lib.hid (by rw [hD2]; exact Wk.refl (K := kX) (n := N) _ a mid)
                have HP2 : Hid (AllP N D2) := Lib.hid (by rw [hD2]; exact HPR.out)
                have HSW2 := HSW1; rw [← hD2] at HZ1 HSW2
                clear hD2
                go_upto_region 43 with fail
                have hr3 : (mid < en ∧ en < b) ∨ (mid < en ∧ ¬ en < b) ∨ ¬ mid < en := by omega
                rcases hr3 with hr | hr | hr
                · obtain ⟨g1, g2⟩ := hr
                  have g1I : (mid : Int) < en := by omega
                  have g2I : (en : Int) < b := by omega
                  have HC := Lib.hid (IH.out w0 _ B g N cap _ mid en b (by omega) g1 g2 hb hN HSW2.out HP2.out (srt_same HR4.out (fun y z1 z2 => HW1.out.out y (.inr z1))) (srt_same HR5.out (fun y z1 z2 => HW1.out.out y (.inr (by omega)))))
                  go_wp2_with (go_at_call 105; refine HC.out.mono ?_; rintro e w4 ⟨rfl, D3, e1, e2, e3, e4⟩; have HW2 := Lib.hid e1; have HZ2 := Lib.hid e2; have HP3 := Lib.hid e3; have HSW3 := Lib.hid e4; clear e1 e2 e3 e4)
                  go_end0
                  obtain ⟨f1, f2⟩ := merge_join (K := kX) (n := N) (d := rot d i m en) (a := a) (mid := mid) (b := b) HW1.out HW2.out (by omega) (by omega) hb HZ1.out HZ2.out HR6.out
                  exact ⟨rfl, _, HR1.out.trans f1, f2, HP3.out, HSW3.out⟩
                · obtain ⟨g1, g2⟩ := hr
                  have g1I : (mid : Int) < en := by omega
                  have g2I : ¬ (en : Int) < b := by omega
                  have HZ2 : Hid (SrtF kX ltB D2 mid b) := Lib.hid (by (have z : b = en := by omega); rw [z]; exact srt_same HR4.out (fun y z1 z2 => HW1.out.out y (.inr z1)))
                  have HW2 := Lib.hid (Wk.refl (K := kX) (n := N) D2 mid b); have HP3 := HP2; have HSW3 := HSW2
                  go_wp2_with fail
                  go_end0
                  obtain ⟨f1, f2⟩ := merge_join (K := kX) (n := N) (d := rot d i m en) (a := a) (mid := mid) (b := b) HW1.out HW2.out (by omega) (by omega) hb HZ1.out HZ2.out HR6.out
                  exact ⟨rfl, _, HR1.out.trans f1, f2, HP3.out, HSW3.out⟩
                · have g1 := hr
                  have g1I : ¬ (mid : Int) < en := by omega
                  have HZ2 : Hid (SrtF kX ltB D2 mid b) := Lib.hid (by (have z : mid = en := by omega); rw [z]; exact srt_same HR5.out (fun y z1 z2 => HW1.out.out y (.inr (by omega))))
                  have HW2 := Lib.hid (Wk.refl (K := kX) (n := N) D2 mid b); have HP3 := HP2; have HSW3 := HSW2
                  go_wp2_with fail
                  go_end0
                  obtain ⟨f1, f2⟩ := merge_join (K := kX) (n := N) (d := rot d i m en) (a := a) (mid := mid) (b := b) HW1.out HW2.out (by omega) (by omega) hb HZ1.out HZ2.out HR6.out
                  exact ⟨rfl, _, HR1.out.trans f1, f2, HP3.out, HSW3.out⟩
              · have g1 := hl
                have g1L : ¬ (a : Int) < i := by omega
                have HZ1 : Hid (SrtF kX ltB (rot d i m en) a mid) := Lib.hid (by (have z : a = i := by omega); rw [z]; exact HR3.out)
                obtain ⟨D2, hD2⟩ : ∃ D2, D2 = rot d i m en := ⟨_, rfl⟩
                have HW1 : Hid (Wk kX N (rot d i m en) D2 a mid) := Lib.hid (by rw [hD2]; exact Wk.refl (K := kX) (n := N) _ a mid)
                have HP2 : Hid (AllP N D2) := Lib.hid (by rw [hD2]; exact HPR.out)
                have HSW2 := HSW1; rw [← hD2] at HZ1 HSW2
                clear hD2
                go_upto_region 43 with fail
                have hr3 : (mid < en ∧ en < b) ∨ (mid < en ∧ ¬ en < b) ∨ ¬ mid < en := by omega
                rcases hr3 with hr | hr | hr
                · obtain ⟨g1, g2⟩ := hr
                  have g1I : (mid : Int) < en := by omega
                  have g2I : (en : Int) < b := by omega
                  have HC := Lib.hid (IH.out w0 _ B g N cap _ mid en b (by omega) g1 g2 hb hN HSW2.out HP2.out (srt_same HR4.out (fun y z1 z2 => HW1.out.out y (.inr z1))) (srt_same HR5.out (fun y z1 z2 => HW1.out.out y (.inr (by omega)))))
                  go_wp2_with (go_at_call 105; refine HC.out.mono ?_; rintro e w4 ⟨rfl, D3, e1, e2, e3, e4⟩; have HW2 := Lib.hid e1; have HZ2 := Lib.hid e2; have HP3 := Lib.hid e3; have HSW3 := Lib.hid e4; clear e1 e2 e3 e4)
                  go_end0
                  obtain ⟨f1, f2⟩ := merge_join (K := kX) (n := N) (d := rot d i m en) (a := a) (mid := mid) (b := b) HW1.out HW2.out (by omega) (by omega) hb HZ1.out HZ2.out HR6.out
                  exact ⟨rfl, _, HR1.out.trans f1, f2, HP3.out, HSW3.out⟩
                · obtain ⟨g1, g2⟩ := hr
                  have g1I : (mid : Int) < en := by omega
                  have g2I : ¬ (en : Int) < b := by omega
                  have HZ2 : Hid (SrtF kX ltB D2 mid b) := Lib.hid (by (have z : b = en := by omega); rw [z]; exact srt_same HR4.out (fun y z1 z2 => HW1.out.out y (.inr z1)))
                  have HW2 := Lib.hid (Wk.refl (K := kX) (n := N) D2 mid b); have HP3 := HP2; have HSW3 := HSW2
                  go_wp2_with fail
                  go_end0
                  obtain ⟨f1, f2⟩ := merge_join (K := kX) (n := N) (d := rot d i m en) (a := a) (mid := mid) (b := b) HW1.out HW2.out (by omega) (by omega) hb HZ1.out HZ2.out HR6.out
                  exact ⟨rfl, _, HR1.out.trans f1, f2, HP3.out, HSW3.out⟩
                · have g1 := hr
                  have g1I : ¬ (mid : Int) < en := by omega
                  have HZ2 : Hid (SrtF kX ltB D2 mid b) := Lib.hid (by (have z : mid = en := by omega); rw [z]; exact srt_same HR5.out (fun y z1 z2 => HW1.out.out y (.inr (by omega))))
                  have HW2 := Lib.hid (Wk.refl (K := kX) (n := N) D2 mid b); have HP3 := HP2; have HSW3 := HSW2
                  go_wp2_with fail
                  go_end0
                  obtain ⟨f1, f2⟩ := merge_join (K := kX) (n := N) (d := rot d i m en) (a := a) (mid := mid) (b := b) HW1.out HW2.out (by omega) (by omega) hb HZ1.out HZ2.out HR6.out
                  exact ⟨rfl, _, HR1.out.trans f1, f2, HP3.out, HSW3.out⟩
            · obtain ⟨g1, g2⟩ := hr
              have g1R : (i : Int) < m := by omega
              have g2R : ¬ (m : Int) < en := by omega
              have HSW1 : Hid (SW w0 B g N cap (rot d i m en) V) := Lib.hid (by rw [show en = m by omega, rot_nilR d him]; exact HSW.out)
              go_upto_region 41 with fail
              have hl3 : (a < i ∧ i < mid) ∨ (a < i ∧ ¬ i < mid) ∨ ¬ a < i := by omega
              rcases hl3 with hl | hl | hl
              · obtain ⟨g1, g2⟩ := hl
                have g1L : (a : Int) < i := by omega
                have g2L : (i : Int) < mid := by omega
                have HC := Lib.hid (IH.out w0 _ B g N cap _ a i mid (by omega) g1 g2 (by omega) hN HSW1.out HPR.out HR2.out HR3.out)
                go_upto_region 43 with (go_at_call 105; refine HC.out.mono ?_; rintro e w3 ⟨rfl, D2, e1, e2, e3, e4⟩; have HW1 := Lib.hid e1; have HZ1 := Lib.hid e2; have HP2 := Lib.hid e3; have HSW2 := Lib.hid e4; clear e1 e2 e3 e4)
                clear HC
                have hr3 : (mid < en ∧ en < b) ∨ (mid < en ∧ ¬ en < b) ∨ ¬ mid < en := by omega
                rcases hr3 with hr | hr | hr
                · obtain ⟨g1, g2⟩ := hr
                  have g1I : (mid : Int) < en := by omega
                  have g2I : (en : Int) < b := by omega
                  have HC := Lib.hid (IH.out w0 _ B g N cap _ mid en b (by omega) g1 g2 hb hN HSW2.out HP2.out (srt_same HR4.out (fun y z1 z2 => HW1.out.out y (.inr z1))) (srt_same HR5.out (fun y z1 z2 => HW1.out.out y (.inr (by omega)))))
                  go_wp2_with (go_at_call 105; refine HC.out.mono ?_; rintro e w4 ⟨rfl, D3, e1, e2, e3, e4⟩; have HW2 := Lib.hid e1; have HZ2 := Lib.hid e2; have HP3 := Lib.hid e3; have HSW3 := Lib.hid e4; clear e1 e2 e3 e4)
                  go_end0
                  obtain ⟨f1, f2⟩ := merge_join (K := kX) (n := N) (d := rot d i m en) (a := a) (mid := mid) (b := b) HW1.out HW2.out (by omega) (by omega) hb HZ1.out HZ2.out HR6.out
                  exact ⟨rfl, _, HR1.out.trans f1, f2, HP3.out, HSW3.out⟩
                · obtain ⟨g1, g2⟩ := hr
                  have g1I : (mid : Int) < en := by omega
                  have g2I : ¬ (en : Int) < b := by omega
                  have HZ2 : Hid (SrtF kX ltB D2 mid b) := Lib.hid (by (have z : b = en := by omega); rw [z]; exact srt_same HR4.out (fun y z1 z2 => HW1.out.out y (.inr z1)))
                  have HW2 := Lib.hid (Wk.refl (K := kX) (n := N) D2 mid b); have HP3 := HP2; have HSW3 := HSW2
                  go_wp2_with fail
                  go_end0
                  obtain ⟨f1, f2⟩ := merge_join (K := kX) (n := N) (d := rot d i m en) (a := a) (mid := mid) (b := b) HW1.out HW2.out (by omega) (by omega) hb HZ1.out HZ2.out HR6.out
                  exact ⟨rfl, _, HR1.out.trans f1, f2, HP3.out, HSW3.out⟩
                · have g1 := hr
                  have g1I : ¬ (mid : Int) < en := by omega
                  have HZ2 : Hid (SrtF kX ltB D2 mid b) := Lib.hid (by (have z : mid = en := by omega); rw [z]; exact srt_same HR5.out (fun y z1 z2 => HW1.out.out y (.inr (by omega))))
                  have HW2 := Lib.hid (Wk.refl (K := kX) (n := N) D2 mid b); have HP3 := HP2; have HSW3 := HSW2
                  go_wp2_with fail
                  go_end0
                  obtain ⟨f1, f2⟩ := merge_join (K := kX) (n := N) (d := rot d i m en) (a := a) (mid := mid) (b := b) HW1.out HW2.out (by omega) (by omega) hb HZ1.out HZ2.out HR6.out
                  exact ⟨rfl, _, HR1.out.trans f1, f2, HP3.out, HSW3.out⟩
              · obtain ⟨g1, g2⟩ := hl
                have g1L : (a : Int) < i := by omega
                have g2L : ¬ (i : Int) < mid := by omega
                have HZ1 : Hid (SrtF kX ltB (rot d i m en) a mid) := Lib.hid (by (have z : mid = i := by omega); rw [z]; exact HR2.out)
                obtain ⟨D2, hD2⟩ : ∃ D2, D2 = rot d i m en := ⟨_, rfl⟩
                have HW1 : Hid (Wk kX N (rot d i m en) D2 a mid) := Lib.hid (by rw [hD2]; exact Wk.refl (K := kX) (n := N) _ a mid)
                have HP2 : Hid (AllP N D2) := Lib.hid (by rw [hD2]; exact HPR.out)
                have HSW2 := HSW1; rw [← hD2] at HZ1 HSW2
                clear hD2
                go_upto_region 43 with fail
                have hr3 : (mid < en ∧ en < b) ∨ (mid < en ∧ ¬ en < b) ∨ ¬ mid < en := by omega
                rcases hr3 with hr | hr | hr
                · obtain ⟨g1, g2⟩ := hr
                  have g1I : (mid : Int) < en := by omega
                  have g2I : (en : Int) < b := by omega
                  have HC := Lib.hid (IH.out w0 _ B g N cap _ mid en b (by omega) g1 g2 hb hN HSW2.out HP2.out (srt_same HR4.out (fun y z1 z2 => HW1.out.out y (.inr z1))) (srt_same HR5.out (fun y z1 z2 => HW1.out.out y (.inr (by omega)))))
                  go_wp2_with (go_at_call 105; refine HC.out.mono ?_; rintro e w4 ⟨rfl, D3, e1, e2, e3, e4⟩; have HW2 := Lib.hid e1; have HZ2 := Lib.hid e2; have HP3 := Lib.hid e3; have HSW3 := Lib.hid e4; clear e1 e2 e3 e4)
                  go_end0
                  obtain ⟨f1, f2⟩ := merge_join (K := kX) (n := N) (d := rot d i m en) (a := a) (mid := mid) (b := b) HW1.out HW2.out (by omega) (by omega) hb HZ1.out HZ2.out HR6.out
                  exact ⟨rfl, _, HR1.out.trans f1, f2, HP3.out, HSW3.out⟩
                · obtain ⟨g1, g2⟩ := hr
                  have g1I : (mid : Int) < en := by omega
                  have g2I : ¬ (en : Int) < b := by omega
                  have HZ2 : Hid (SrtF kX ltB D2 mid b) := Lib.hid (by (have z : b = en := by omega); rw [z]; exact srt_same HR4.out (fun y z1 z2 => HW1.out.out y (.inr z1)))
                  have HW2 := Lib.hid (Wk.refl (K := kX) (n := N) D2 mid b); have HP3 := HP2; have HSW3 := HSW2
                  go_wp2_with fail
                  go_end0
                  obtain ⟨f1, f2⟩ := merge_join (K := kX) (n := N) (d := rot d i m en) (a := a) (mid := mid) (b := b) HW1.out HW2.out (by omega) (by omega) hb HZ1.out HZ2.out HR6.out
                  exact ⟨rfl, _, HR1.out.trans f1, f2, HP3.out, HSW3.out⟩
                · have g1 := hr
                  have g1I : ¬ (mid : Int) < en := by omega
                  have HZ2 : Hid (SrtF kX ltB D2 mid b) := Lib.hid (by (have z : mid = en := by omega); rw [z]; exact srt_same HR5.out (fun y z1 z2 => HW1.out.out y (.inr (by omega))))
                  have HW2 := Lib.hid (Wk.refl (K := kX) (n := N) D2 mid b); have HP3 := HP2; have HSW3 := HSW2
                  go_wp2_with fail
                  go_end0
                  obtain ⟨f1, f2⟩ := merge_join (K := kX) (n := N) (d := rot d i m en) (a := a) (mid := mid) (b := b) HW1.out HW2.out (by omega) (by omega) hb HZ1.out HZ2.out HR6.out
                  exact ⟨rfl, _, HR1.out.trans f1, f2, HP3.out, HSW3.out⟩
              · have g1 := hl
                have g1L : ¬ (a : Int) < i := by omega
                have HZ1 : Hid (SrtF kX ltB (rot d i m en) a mid) := Lib.hid (by (have z : a = i := by omega); rw [z]; exact HR3.out)
                obtain ⟨D2, hD2⟩ : ∃ D2, D2 = rot d i m en := ⟨_, rfl⟩
                have HW1 : Hid (Wk kX N (rot d i m en) D2 a mid) := Lib.hid (by rw [hD2]; exact Wk.refl (K := kX) (n := N) _ a mid)
                have HP2 : Hid (AllP N D2) := Lib.hid (by rw [hD2]; exact HPR.out)
                have HSW2 := HSW1; rw [← hD2] at HZ1 HSW2
                clear hD2
                go_upto_region 43 with fail
                have hr3 : (mid < en ∧ en < b) ∨ (mid < en ∧ ¬ en < b) ∨ ¬ mid < en := by omega
                rcases hr3 with hr | hr | hr
                · obtain ⟨g1, g2⟩ := hr
                  have g1I : (mid : Int) < en := by omega
                  have g2I : (en : Int) < b := by omega
                  have HC := Lib.hid (IH.out w0 _ B g N cap _ mid en b (by omega) g1 g2 hb hN HSW2.out HP2.out (srt_same HR4.out (fun y z1 z2 => HW1.out.out y (.inr z1))) (srt_same HR5.out (fun y z1 z2 => HW1.out.out y (.inr (by omega)))))
                  go_wp2_with (go_at_call 105; refine HC.out.mono ?_; rintro e w4 ⟨rfl, D3, e1, e2, e3, e4⟩; have HW2 := Lib.hid e1; have HZ2 := Lib.hid e2; have HP3 := Lib.hid e3; have HSW3 := Lib.hid e4; clear e1 e2 e3 e4)
                  go_end0
                  obtain ⟨f1, f2⟩ := merge_join (K := kX) (n := N) (d := rot d i m en) (a := a) (mid := mid) (b := b) HW1.out HW2.out (by omega) (by omega) hb HZ1.out HZ2.out HR6.out
                  exact ⟨rfl, _, HR1.out.trans f1, f2, HP3.out, HSW3.out⟩
                · obtain ⟨g1, g2⟩ := hr
                  have g1I : (mid : Int) < en := by omega
                  have g2I : ¬ (en : Int) < b := by omega
                  have HZ2 : Hid (SrtF kX ltB D2 mid b) := Lib.hid (by (have z : b = en := by omega); rw [z]; exact srt_same HR4.out (fun y z1 z2 => HW1.out.out y (.inr z1)))
                  have HW2 := Lib.hid (Wk.refl (K := kX) (n := N) D2 mid b); have HP3 := HP2; have HSW3 := HSW2
                  go_wp2_with fail
                  go_end0
                  obtain ⟨f1, f2⟩ := merge_join (K := kX) (n := N) (d := rot d i m en) (a := a) (mid := mid) (b := b) HW1.out HW2.out (by omega) (by omega) hb HZ1.out HZ2.out HR6.out
                  exact ⟨rfl, _, HR1.out.trans f1, f2, HP3.out, HSW3.out⟩
                · have g1 := hr
                  have g1I : ¬ (mid : Int) < en := by omega
                  have HZ2 : Hid (SrtF kX ltB D2 mid b) := Lib.hid (by (have z : mid = en := by omega); rw [z]; exact srt_same HR5.out (fun y z1 z2 => HW1.out.out y (.inr (by omega))))
                  have HW2 := Lib.hid (Wk.refl (K := kX) (n := N) D2 mid b); have HP3 := HP2; have HSW3 := HSW2
                  go_wp2_with fail
                  go_end0
                  obtain ⟨f1, f2⟩ := merge_join (K := kX) (n := N) (d := rot d i m en) (a := a) (mid := mid) (b := b) HW1.out HW2.out (by omega) (by omega) hb HZ1.out HZ2.out HR6.out
                  exact ⟨rfl, _, HR1.out.trans f1, f2, HP3.out, HSW3.out⟩
            · have g1 := hr
              have g1R : ¬ (i : Int) < m := by omega
              have HSW1 : Hid (SW w0 B g N cap (rot d i m en) V) := Lib.hid (by rw [show i = m by omega, rot_nilL d hme]; exact HSW.out)
              go_upto_region 41 with fail
              have hl3 : (a < i ∧ i < mid) ∨ (a < i ∧ ¬ i < mid) ∨ ¬ a < i := by omega
              rcases hl3 with hl | hl | hl
              · obtain ⟨g1, g2⟩ := hl
                have g1L : (a : Int) < i := by omega
                have g2L : (i : Int) < mid := by omega
                have HC := Lib.hid (IH.out w0 _ B g N cap _ a i mid (by omega) g1 g2 (by omega) hN HSW1.out HPR.out HR2.out HR3.out)
                go_upto_region 43 with (go_at_call 105; refine HC.out.mono ?_; rintro e w3 ⟨rfl, D2, e1, e2, e3, e4⟩; have HW1 := Lib.hid e1; have HZ1 := Lib.hid e2; have HP2 := Lib.hid e3; have HSW2 := Lib.hid e4; clear e1 e2 e3 e4)
                clear HC
                have hr3 : (mid < en ∧ en < b) ∨ (mid < en ∧ ¬ en < b) ∨ ¬ mid < en := by omega
                rcases hr3 with hr | hr | hr
                · obtain ⟨g1, g2⟩ := hr
                  have g1I : (mid : Int) < en := by omega
                  have g2I : (en : Int) < b := by omega
                  have HC := Lib.hid (IH.out w0 _ B g N cap _ mid en b (by omega) g1 g2 hb hN HSW2.out HP2.out (srt_same HR4.out (fun y z1 z2 => HW1.out.out y (.inr z1))) (srt_same HR5.out (fun y z1 z2 => HW1.out.out y (.inr (by omega)))))
                  go_wp2_with (go_at_call 105; refine HC.out.mono ?_; rintro e w4 ⟨rfl, D3, e1, e2, e3, e4⟩; have HW2 := Lib.hid e1; have HZ2 := Lib.hid e2; have HP3 := Lib.hid e3; have HSW3 := Lib.hid e4; clear e1 e2 e3 e4)
                  go_end0
                  obtain ⟨f1, f2⟩ := merge_join (K := kX) (n := N) (d := rot d i m en) (a := a) (mid := mid) (b := b) HW1.out HW2.out (by omega) (by omega) hb HZ1.out HZ2.out HR6.out
                  exact ⟨rfl, _, HR1.out.trans f1, f2, HP3.out, HSW3.out⟩
                · obtain ⟨g1, g2⟩ := hr
                  have g1I : (mid : Int) < en := by omega
                  have g2I : ¬ (en : Int) < b := by omega
                  have HZ2 : Hid (SrtF kX ltB D2 mid b) := Lib.hid (by (have z : b = en := by omega); rw [z]; exact srt_same HR4.out (fun y z1 z2 => HW1.out.out y (.inr z1)))
                  have HW2 := Lib.hid (Wk.refl (K := kX) (n := N) D2 mid b); have HP3 := HP2; have HSW3 := HSW2
                  go_wp2_with fail
                  go_end0
                  obtain ⟨f1, f2⟩ := merge_join (K := kX) (n := N) (d := rot d i m en) (a := a) (mid := mid) (b := b) HW1.out HW2.out (by omega) (by omega) hb HZ1.out HZ2.out HR6.out
                  exact ⟨rfl, _, HR1.out.trans f1, f2, HP3.out, HSW3.out⟩
                · have g1 := hr
                  have g1I : ¬ (mid : Int) < en := by omega
                  have HZ2 : Hid (SrtF kX ltB D2 mid b) := Lib.hid (by (have z : mid = en := by omega); rw [z]; exact srt_same HR5.out (fun y z1 z2 => HW1.out.out y (.inr (by omega))))
                  have HW2 := Lib.hid (Wk.refl (K := kX) (n := N) D2 mid b); have HP3 := HP2; have HSW3 := HSW2
                  go_wp2_with fail
                  go_end0
                  obtain ⟨f1, f2⟩ := merge_join (K := kX) (n := N) (d := rot d i m en) (a := a) (mid := mid) (b := b) HW1.out HW2.out (by omega) (by omega) hb HZ1.out HZ2.out HR6.out
                  exact ⟨rfl, _, HR1.out.trans f1, f2, HP3.out, HSW3.out⟩
              · obtain ⟨g1, g2⟩ := hl
                have g1L : (a : Int) < i := by omega
                have g2L : ¬ (i : Int) < mid := by omega
                have HZ1 : Hid (SrtF kX ltB (rot d i m en) a mid) := Lib.hid (by (have z : mid = i := by omega); rw [z]; exact HR2.out)
                obtain ⟨D2, hD2⟩ : ∃ D2, D2 = rot d i m en := ⟨_, rfl⟩
                have HW1 : Hid (Wk kX N (rot d i m en) D2 a mid) := Lib.hid (by rw [hD2]; exact Wk.refl (K := kX) (n := N) _ a mid)
                have HP2 : Hid (AllP N D2) := Lib.hid (by rw [hD2]; exact HPR.out)
                have HSW2 := HSW1; rw [← hD2] at HZ1 HSW2
                clear hD2
                go_upto_region 43 with fail
                have hr3 : (mid < en ∧ en < b) ∨ (mid < en ∧ ¬ en < b) ∨ ¬ mid < en := by omega
                rcases hr3 with hr | hr | hr
                · obtain ⟨g1, g2⟩ := hr
                  have g1I : (mid : Int) < en := by omega
                  have g2I : (en : Int) < b := by omega
                  have HC := Lib.hid (IH.out w0 _ B g N cap _ mid en b (by omega) g1 g2 hb hN HSW2.out HP2.out (srt_same HR4.out (fun y z1 z2 => HW1.out.out y (.inr z1))) (srt_same HR5.out (fun y z1 z2 => HW1.out.out y (.inr (by omega)))))
                  go_wp2_with (go_at_call 105; refine HC.out.mono ?_; rintro e w4 ⟨rfl, D3, e1, e2, e3, e4⟩; have HW2 := Lib.hid e1; have HZ2 := Lib.hid e2; have HP3 := Lib.hid e3; have HSW3 := Lib.hid e4; clear e1 e2 e3 e4)
                  go_end0
                  obtain ⟨f1, f2⟩ := merge_join (K := kX) (n := N) (d := rot d i m en) (a := a) (mid := mid) (b := b) HW1.out HW2.out (by omega) (by omega) hb HZ1.out HZ2.out HR6.out
                  exact ⟨rfl, _, HR1.out.trans f1, f2, HP3.out, HSW3.out⟩
                · obtain ⟨g1, g2⟩ := hr
                  have g1I : (mid : Int) < en := by omega
                  have g2I : ¬ (en : Int) < b := by omega
                  have HZ2 : Hid (SrtF kX ltB D2 mid b) := Lib.hid (by (have z : b = en := by omega); rw [z]; exact srt_same HR4.out (fun y z1 z2 => HW1.out.out y (.inr z1)))
                  have HW2 := Lib.hid (Wk.refl (K := kX) (n := N) D2 mid b); have HP3 := HP2; have HSW3 := HSW2
                  go_wp2_with fail
                  go_end0
                  obtain ⟨f1, f2⟩ := merge_join (K := kX) (n := N) (d := rot d i m en) (a := a) (mid := mid) (b := b) HW1.out HW2.out (by omega) (by omega) hb HZ1.out HZ2.out HR6.out
                  exact ⟨rfl, _, HR1.out.trans f1, f2, HP3.out, HSW3.out⟩
                · have g1 := hr
                  have g1I : ¬ (mid : Int) < en := by omega
                  have HZ2 : Hid (SrtF kX ltB D2 mid b) := Lib.hid (by (have z : mid = en := by omega); rw [z]; exact srt_same HR5.out (fun y z1 z2 => HW1.out.out y (.inr (by omega))))
                  have HW2 := Lib.hid (Wk.refl (K := kX) (n := N) D2 mid b); have HP3 := HP2; have HSW3 := HSW2
                  go_wp2_with fail
                  go_end0
                  obtain ⟨f1, f2⟩ := merge_join (K := kX) (n := N) (d := rot d i m en) (a := a) (mid := mid) (b := b) HW1.out HW2.out (by omega) (by omega) hb HZ1.out HZ2.out HR6.out
                  exact ⟨rfl, _, HR1.out.trans f1, f2, HP3.out, HSW3.out⟩
              · have g1 := hl
                have g1L : ¬ (a : Int) < i := by omega
                have HZ1 : Hid (SrtF kX ltB (rot d i m en) a mid) := Lib.hid (by (have z : a = i := by omega); rw [z]; exact HR3.out)
                obtain ⟨D2, hD2⟩ : ∃ D2, D2 = rot d i m en := ⟨_, rfl⟩
                have HW1 : Hid (Wk kX N (rot d i m en) D2 a mid) := Lib.hid (by rw [hD2]; exact Wk.refl (K := kX) (n := N) _ a mid)
                have HP2 : Hid (AllP N D2) := Lib.hid (by rw [hD2]; exact HPR.out)
                have HSW2 := HSW1; rw [← hD2] at HZ1 HSW2
                clear hD2
                go_upto_region 43 with fail
                have hr3 : (mid < en ∧ en < b) ∨ (mid < en ∧ ¬ en < b) ∨ ¬ mid < en := by omega
                rcases hr3 with hr | hr | hr
                · obtain ⟨g1, g2⟩ := hr
                  have g1I : (mid : Int) < en := by omega
                  have g2I : (en : Int) < b := by omega
                  have HC := Lib.hid (IH.out w0 _ B g N cap _ mid en b (by omega) g1 g2 hb hN HSW2.out HP2.out (srt_same HR4.out (fun y z1 z2 => HW1.out.out y (.inr z1))) (srt_same HR5.out (fun y z1 z2 => HW1.out.out y (.inr (by omega)))))
                  go_wp2_with (go_at_call 105; refine HC.out.mono ?_; rintro e w4 ⟨rfl, D3, e1, e2, e3, e4⟩; have HW2 := Lib.hid e1; have HZ2 := Lib.hid e2; have HP3 := Lib.hid e3; have HSW3 := Lib.hid e4; clear e1 e2 e3 e4)
                  go_end0
                  obtain ⟨f1, f2⟩ := merge_join (K := kX) (n := N) (d := rot d i m en) (a := a) (mid := mid) (b := b) HW1.out HW2.out (by omega) (by omega) hb HZ1.out HZ2.out HR6.out
                  exact ⟨rfl, _, HR1.out.trans f1, f2, HP3.out, HSW3.out⟩
                · obtain ⟨g1, g2⟩ := hr
                  have g1I : (mid : Int) < en := by omega
                  have g2I : ¬ (en : Int) < b := by omega
                  have HZ2 : Hid (SrtF kX ltB D2 mid b) := Lib.hid (by (have z : b = en := by omega); rw [z]; exact srt_same HR4.out (fun y z1 z2 => HW1.out.out y (.inr z1)))
                  have HW2 := Lib.hid (Wk.refl (K := kX) (n := N) D2 mid b); have HP3 := HP2; have HSW3 := HSW2
                  go_wp2_with fail
                  go_end0
                  obtain ⟨f1, f2⟩ := merge_join (K := kX) (n := N) (d := rot d i m en) (a := a) (mid := mid) (b := b) HW1.out HW2.out (by omega) (by omega) hb HZ1.out HZ2.out HR6.out
                  exact ⟨rfl, _, HR1.out.trans f1, f2, HP3.out, HSW3.out⟩
                · have g1 := hr
                  have g1I : ¬ (mid : Int) < en := by omega
                  have HZ2 : Hid (SrtF kX ltB D2 mid b) := Lib.hid (by (have z : mid = en := by omega); rw [z]; exact srt_same HR5.out (fun y z1 z2 => HW1.out.out y (.inr (by omega))))
                  have HW2 := Lib.hid (Wk.refl (K := kX) (n := N) D2 mid b); have HP3 := HP2; have HSW3 := HSW2
                  go_wp2_with fail
                  go_end0
                  obtain ⟨f1, f2⟩ := merge_join (K := kX) (n := N) (d := rot d i m en) (a := a) (mid := mid) (b := b) HW1.out HW2.out (by omega) (by omega) hb HZ1.out HZ2.out HR6.out
                  exact ⟨rfl, _, HR1.out.trans f1, f2, HP3.out, HSW3.out⟩
      · have hmI : ¬ (mid : Int) < m := by omega
        obtain ⟨st0, hst0⟩ : ∃ s, s = a := ⟨_, rfl⟩
        obtain ⟨r0, hr0⟩ : ∃ r, r = m := ⟨_, rfl⟩
        have hsr0 : st0 ≤ r0 := by omega
        have hq1 : r0 ≤ m := by omega
        have hq2 : m ≤ r0 := by omega
        have hq3 : st0 ≤ a := by omega
        have hq4 : r0 ≤ mid := by omega
        have hstx : a ≤ st0 := by omega
        obtain ⟨hM2, hM3⟩ := HM2.out
        go_wp2_with fail
        go_loopw [20, 21] (fun ss sr wr => ∃ (st r : Nat), ss = .int .i64 (st : Int) ∧ sr = .int .i64 (r : Int) ∧ st0 ≤ st ∧ st ≤ r ∧ r ≤ r0 ∧ Hid ((st = st0 ∨ ltB (kX (d (mid + m - st))) (kX (d (st - 1))) = false) ∧ (r = r0 ∨ ltB (kX (d (mid + m - 1 - r))) (kX (d r)) = true)) ∧ Hid (SW w0 B g N cap d wr)) (fun ss sr _ => (intOf sr).toNat - (intOf ss).toNat)
        case atStart => exact ⟨st0, r0, by rw [hst0], by rw [hr0], Nat.le_refl _, hsr0, Nat.le_refl _, Lib.hid ⟨.inl rfl, .inl rfl⟩, HSW0⟩
        case round =>
          obtain ⟨i, j, rfl, rfl, hi, hij, hj, HQ, HSW⟩ := hrel
          obtain ⟨V, rfl⟩ : ∃ V : World, V = wr := ⟨_, rfl⟩
          by_cases hlt : i < j
          · have hltI : (i : Int) < j := by omega
            have hjI : (j : Int) ≤ 1000000 := by omega
            obtain ⟨hx1, hx2⟩ := half hlt
            obtain ⟨k, hk⟩ : ∃ k, (i + j) / 2 = k := ⟨_, rfl⟩
            rw [hk] at hx1 hx2
            have HK := Lib.hid (show ((i : Int) + j) / 2 = (k : Int) by omega)
            clear hk
            have HLX := Lib.hid (show mid + m - 1 - k < N by omega); have HLY := Lib.hid (show k < N by omega)
            have hPk := HP.out
            obtain ⟨zx, ax, nx, cx, ex⟩ := hPk _ HLX.out
            obtain ⟨zy, ay, ny, cy, ey⟩ := hPk _ HLY.out
            have Q1 := Lib.hid (HSW.out.at HLX.out); have Q2 := Lib.hid (HSW.out.at HLY.out)
            have HC1 := Lib.hid (fun (U : World) => cmp_calls U (hPk _ HLX.out) (hPk _ HLY.out))
            have HC2 := Lib.hid (fun (U : World) => cmp_calls U (hPk _ HLY.out) (hPk _ HLX.out))
            obtain ⟨⟨x, sx⟩, hx⟩ : ∃ p, d (mid + m - 1 - k) = p := ⟨_, rfl⟩
            obtain ⟨⟨y, sy⟩, hy⟩ : ∃ p, d (k) = p := ⟨_, rfl⟩
            rw [hx] at Q1 ex HC1 HC2; rw [hy] at Q2 ey HC1 HC2
            simp only at ex ey HC1 HC2
            subst ex; subst ey
            unfold objV at HC1 HC2
            have HX := Lib.hid hx; have HY := Lib.hid hy
            clear hx hy hPk zx zy
            have i1 : IntKind.i64.wrap ((mid : Int) + m - 1 - k) = (mid : Int) + m - 1 - k := IntWalk.i64_in _ (by omega)
            have i2 : (0 : Int) ≤ (mid : Int) + m - 1 - k := by omega
            have i3 : (mid : Int) + m - 1 - k < N := by omega
            have i4 : ((mid : Int) + m - 1 - k).toNat = mid + m - 1 - k := by omega
            have i5 : (k : Int) < N := by omega
            have i6 : (k : Int) ≤ (mid : Int) + m - 1 := by omega
            obtain ⟨c, hc⟩ : ∃ c, cmpO x y = c := ⟨_, rfl⟩
            have HL2 := Lib.hid (show decide (c < 0) = ltB (kX (d (mid + m - 1 - k))) (kX (d k)) by rw [← hc, cmpO_lt]; rw [HX.out, HY.out]; rfl)
            rw [hc] at HC1
            clear hc HC2
            have hB := Below.refl V.heap.size V
            go_upto_region 35 with fail
            rw [HK.out]
            by_cases hcn : c < 0
            · have HLT := Lib.hid (show ltB (kX (d (mid + m - 1 - k))) (kX (d k)) = true by rw [← HL2.out]; exact decide_eq_true hcn)
              have hB := hB.drew
              refine region_seq (fun w' => Below V.heap.size V w') [(0, true), (1, true), (2, true), (3, true), (4, true), (5, true), (6, true), (7, true), (8, true), (9, true), (10, true), (11, false), (12, true), (13, true)] (by kernel_rfl) (by kernel_rfl) (fun _ _ _ _ h => h) hB ?_
              try generalize World.drew _ = wS at hB ⊢
              refine seq_take (v := ?_) (a' := ?_) (some 158) rfl rfl (by rfl) ?_ ?_ ?_
              rotate_left; rotate_left
              · intro w' hS; go_simp; with_reducible rfl
              · simp only [Act.put, List.setIfInBounds_toArray, List.set_cons_zero, List.set_cons_succ]; rfl
              refine seq_take (v := ?_) (a' := ?_) (some 159) rfl rfl (by rfl) ?_ ?_ ?_
              rotate_left; rotate_left
              · intro w' hS; go_simp; with_reducible rfl
              · simp only [Act.put, List.setIfInBounds_toArray, List.set_cons_zero, List.set_cons_succ]; rfl
              refine seq_take (v := ?_) (a' := ?_) (some 160) rfl rfl (by rfl) ?_ ?_ ?_
              rotate_left; rotate_left
              · intro w' hS; go_simp; with_reducible rfl
              · simp only [Act.put, List.setIfInBounds_toArray, List.set_cons_zero, List.set_cons_succ]; rfl
              refine seq_take (v := ?_) (a' := ?_) (some 161) rfl rfl (by rfl) ?_ ?_ ?_
              rotate_left; rotate_left
              · intro w' hS; go_simp; with_reducible rfl
              · simp only [Act.put, List.setIfInBounds_toArray, List.set_cons_zero, List.set_cons_succ]; rfl
              refine seq_take (v := ?_) (a' := ?_) (some 162) rfl rfl (by rfl) ?_ ?_ ?_
              rotate_left; rotate_left
              · intro w' hS; go_simp; with_reducible rfl
              · simp only [Act.put, List.setIfInBounds_toArray, List.set_cons_zero, List.set_cons_succ]; rfl
              refine seq_take (v := ?_) (a' := ?_) (some 163) rfl rfl (by rfl) ?_ ?_ ?_
              rotate_left; rotate_left
              · intro w' hS; go_simp; with_reducible rfl
              · simp only [Act.put, List.setIfInBounds_toArray, List.set_cons_zero, List.set_cons_succ]; rfl
              refine seq_take (v := ?_) (a' := ?_) (some 164) rfl rfl (by rfl) ?_ ?_ ?_
              rotate_left; rotate_left
              · intro w' hS; have p1 := Q1.out.below hS; have p2 := Q2.out.below hS; have a0 := p1.c0; have a1 := p1.c1; have a2 := p1.c2; have a3 := p1.c3; have a4 := p1.c4; have a5 := p1.c5; have a6 := p1.c6; have a7 := p1.c7; have b0 := p2.c0; have b1 := p2.c1; have b2 := p2.c2; have b3 := p2.c3; have b4 := p2.c4; have b5 := p2.c5; have b6 := p2.c6; have b7 := p2.c7; simp only at a0 a1 a2 a3 a4 a5 a6 a7 b0 b1 b2 b3 b4 b5 b6 b7; go_simp; with_reducible rfl
              · simp only [Act.put, List.setIfInBounds_toArray, List.set_cons_zero, List.set_cons_succ]; rfl
              refine seq_take (v := ?_) (a' := ?_) (some 165) rfl rfl (by rfl) ?_ ?_ ?_
              rotate_left; rotate_left
              · intro w' hS; go_simp; with_reducible rfl
              · simp only [Act.put, List.setIfInBounds_toArray, List.set_cons_zero, List.set_cons_succ]; rfl
              refine seq_take (v := ?_) (a' := ?_) (some 166) rfl rfl (by rfl) ?_ ?_ ?_
              rotate_left; rotate_left
              · intro w' hS; go_simp; with_reducible rfl
              · simp only [Act.put, List.setIfInBounds_toArray, List.set_cons_zero, List.set_cons_succ]; rfl
              refine seq_take (v := ?_) (a' := ?_) (some 167) rfl rfl (by rfl) ?_ ?_ ?_
              rotate_left; rotate_left
              · intro w' hS; go_simp; with_reducible rfl
              · simp only [Act.put, List.setIfInBounds_toArray, List.set_cons_zero, List.set_cons_succ]; rfl
              refine seq_take (v := ?_) (a' := ?_) (some 168) rfl rfl (by rfl) ?_ ?_ ?_
              rotate_left; rotate_left
              · intro w' hS; have p1 := Q1.out.below hS; have p2 := Q2.out.below hS; have a0 := p1.c0; have a1 := p1.c1; have a2 := p1.c2; have a3 := p1.c3; have a4 := p1.c4; have a5 := p1.c5; have a6 := p1.c6; have a7 := p1.c7; have b0 := p2.c0; have b1 := p2.c1; have b2 := p2.c2; have b3 := p2.c3; have b4 := p2.c4; have b5 := p2.c5; have b6 := p2.c6; have b7 := p2.c7; simp only at a0 a1 a2 a3 a4 a5 a6 a7 b0 b1 b2 b3 b4 b5 b6 b7; go_simp; with_reducible rfl
              · simp only [Act.put, List.setIfInBounds_toArray, List.set_cons_zero, List.set_cons_succ]; rfl
              refine seq_callV (args := ?_) Try.func58 (by kernel_rfl) rfl (some 169) rfl rfl (by rfl) rfl rfl ?_ ?_
              rotate_left
              · simp only [List.map_toArray, List.map_cons, List.map_nil]; go_simp; rfl
              with_reducible refine (HC1.out _).mono ?_
              rintro e w' ⟨rfl, hb⟩
              refine ⟨_, rfl, bl_next (by repeat (first | with_reducible exact hB | refine Below.alloc ?_ (by have := hB.size; simp; omega) _ | refine bl_dN ?_ _ | refine Below.drew ?_ | refine Below.setCell ?_ (by have := hB.size; simp; omega) _)) hb, ?_⟩
              have hB := bl_next (by repeat (first | with_reducible exact hB | refine Below.alloc ?_ (by have := hB.size; simp; omega) _ | refine bl_dN ?_ _ | refine Below.drew ?_ | refine Below.setCell ?_ (by have := hB.size; simp; omega) _)) hb; clear hb
              simp only [Act.put, List.setIfInBounds_toArray, List.set_cons_zero, List.set_cons_succ]
              refine seq_take (v := ?_) (a' := ?_) (some 170) rfl rfl (by rfl) ?_ ?_ ?_
              rotate_left; rotate_left
              · intro w' hS; go_simp; with_reducible rfl
              · simp only [Act.put, List.setIfInBounds_toArray, List.set_cons_zero, List.set_cons_succ]; rfl
              refine seq_take (v := ?_) (a' := ?_) (some 171) rfl rfl (by rfl) ?_ ?_ ?_
              rotate_left; rotate_left
              · intro w' hS; go_simp; with_reducible rfl
              · simp only [Act.put, List.setIfInBounds_toArray, List.set_cons_zero, List.set_cons_succ]; rfl
              refine seq_done ?_
              clear i1 i2 i3 i4 i6
              go_wp2_with fail
              go_roundw
              case rel => exact ⟨i, k, rfl, rfl, by omega, by omega, by omega, Lib.hid ⟨HQ.out.1, .inr HLT.out⟩, Lib.hid (HSW.out.read hB)⟩
              case measure => simp [intOf]; omega
            · have HLT := Lib.hid (show ltB (kX (d (mid + m - 1 - k))) (kX (d k)) = false by rw [← HL2.out]; exact decide_eq_false hcn)
              have hB := hB.drew
              refine region_seq (fun w' => Below V.heap.size V w') [(0, true), (1, true), (2, true), (3, true), (4, true), (5, true), (6, true), (7, true), (8, true), (9, true), (10, true), (11, false), (12, true), (13, true)] (by kernel_rfl) (by kernel_rfl) (fun _ _ _ _ h => h) hB ?_
              try generalize World.drew _ = wS at hB ⊢
              refine seq_take (v := ?_) (a' := ?_) (some 158) rfl rfl (by rfl) ?_ ?_ ?_
              rotate_left; rotate_left
              · intro w' hS; go_simp; with_reducible rfl
              · simp only [Act.put, List.setIfInBounds_toArray, List.set_cons_zero, List.set_cons_succ]; rfl
              refine seq_take (v := ?_) (a' := ?_) (some 159) rfl rfl (by rfl) ?_ ?_ ?_
              rotate_left; rotate_left
              · intro w' hS; go_simp; with_reducible rfl
              · simp only [Act.put, List.setIfInBounds_toArray, List.set_cons_zero, List.set_cons_succ]; rfl
              refine seq_take (v := ?_) (a' := ?_) (some 160) rfl rfl (by rfl) ?_ ?_ ?_
              rotate_left; rotate_left
              · intro w' hS; go_simp; with_reducible rfl
              · simp only [Act.put, List.setIfInBounds_toArray, List.set_cons_zero, List.set_cons_succ]; rfl
              refine seq_take (v := ?_) (a' := ?_) (some 161) rfl rfl (by rfl) ?_ ?_ ?_
              rotate_left; rotate_left
              · intro w' hS; go_simp; with_reducible rfl
              · simp only [Act.put, List.setIfInBounds_toArray, List.set_cons_zero, List.set_cons_succ]; rfl
              refine seq_take (v := ?_) (a' := ?_) (some 162) rfl rfl (by rfl) ?_ ?_ ?_
              rotate_left; rotate_left
              · intro w' hS; go_simp; with_reducible rfl
              · simp only [Act.put, List.setIfInBounds_toArray, List.set_cons_zero, List.set_cons_succ]; rfl
              refine seq_take (v := ?_) (a' := ?_) (some 163) rfl rfl (by rfl) ?_ ?_ ?_
              rotate_left; rotate_left
              · intro w' hS; go_simp; with_reducible rfl
              · simp only [Act.put, List.setIfInBounds_toArray, List.set_cons_zero, List.set_cons_succ]; rfl
              refine seq_take (v := ?_) (a' := ?_) (some 164) rfl rfl (by rfl) ?_ ?_ ?_
              rotate_left; rotate_left
              · intro w' hS; have p1 := Q1.out.below hS; have p2 := Q2.out.below hS; have a0 := p1.c0; have a1 := p1.c1; have a2 := p1.c2; have a3 := p1.c3; have a4 := p1.c4; have a5 := p1.c5; have a6 := p1.c6; have a7 := p1.c7; have b0 := p2.c0; have b1 := p2.c1; have b2 := p2.c2; have b3 := p2.c3; have b4 := p2.c4; have b5 := p2.c5; have b6 := p2.c6; have b7 := p2.c7; simp only at a0 a1 a2 a3 a4 a5 a6 a7 b0 b1 b2 b3 b4 b5 b6 b7; go_simp; with_reducible rfl
              · simp only [Act.put, List.setIfInBounds_toArray, List.set_cons_zero, List.set_cons_succ]; rfl
              refine seq_take (v := ?_) (a' := ?_) (some 165) rfl rfl (by rfl) ?_ ?_ ?_
              rotate_left; rotate_left
              · intro w' hS; go_simp; with_reducible rfl
              · simp only [Act.put, List.setIfInBounds_toArray, List.set_cons_zero, List.set_cons_succ]; rfl
              refine seq_take (v := ?_) (a' := ?_) (some 166) rfl rfl (by rfl) ?_ ?_ ?_
              rotate_left; rotate_left
              · intro w' hS; go_simp; with_reducible rfl
              · simp only [Act.put, List.setIfInBounds_toArray, List.set_cons_zero, List.set_cons_succ]; rfl
              refine seq_take (v := ?_) (a' := ?_) (some 167) rfl rfl (by rfl) ?_ ?_ ?_
              rotate_left; rotate_left
              · intro w' hS; go_simp; with_reducible rfl
              · simp only [Act.put, List.setIfInBounds_toArray, List.set_cons_zero, List.set_cons_succ]; rfl
              refine seq_take (v := ?_) (a' := ?_) (some 168) rfl rfl (by rfl) ?_ ?_ ?_
              rotate_left; rotate_left
              · intro w' hS; have p1 := Q1.out.below hS; have p2 := Q2.out.below hS; have a0 := p1.c0; have a1 := p1.c1; have a2 := p1.c2; have a3 := p1.c3; have a4 := p1.c4; have a5 := p1.c5; have a6 := p1.c6; have a7 := p1.c7; have b0 := p2.c0; have b1 := p2.c1; have b2 := p2.c2; have b3 := p2.c3; have b4 := p2.c4; have b5 := p2.c5; have b6 := p2.c6; have b7 := p2.c7; simp only at a0 a1 a2 a3 a4 a5 a6 a7 b0 b1 b2 b3 b4 b5 b6 b7; go_simp; with_reducible rfl
              · simp only [Act.put, List.setIfInBounds_toArray, List.set_cons_zero, List.set_cons_succ]; rfl
              refine seq_callV (args := ?_) Try.func58 (by kernel_rfl) rfl (some 169) rfl rfl (by rfl) rfl rfl ?_ ?_
              rotate_left
              · simp only [List.map_toArray, List.map_cons, List.map_nil]; go_simp; rfl
              with_reducible refine (HC1.out _).mono ?_
              rintro e w' ⟨rfl, hb⟩
              refine ⟨_, rfl, bl_next (by repeat (first | with_reducible exact hB | refine Below.alloc ?_ (by have := hB.size; simp; omega) _ | refine bl_dN ?_ _ | refine Below.drew ?_ | refine Below.setCell ?_ (by have := hB.size; simp; omega) _)) hb, ?_⟩
              have hB := bl_next (by repeat (first | with_reducible exact hB | refine Below.alloc ?_ (by have := hB.size; simp; omega) _ | refine bl_dN ?_ _ | refine Below.drew ?_ | refine Below.setCell ?_ (by have := hB.size; simp; omega) _)) hb; clear hb
              simp only [Act.put, List.setIfInBounds_toArray, List.set_cons_zero, List.set_cons_succ]
              refine seq_take (v := ?_) (a' := ?_) (some 170) rfl rfl (by rfl) ?_ ?_ ?_
              rotate_left; rotate_left
              · intro w' hS; go_simp; with_reducible rfl
              · simp only [Act.put, List.setIfInBounds_toArray, List.set_cons_zero, List.set_cons_succ]; rfl
              refine seq_take (v := ?_) (a' := ?_) (some 171) rfl rfl (by rfl) ?_ ?_ ?_
              rotate_left; rotate_left
              · intro w' hS; go_simp; with_reducible rfl
              · simp only [Act.put, List.setIfInBounds_toArray, List.set_cons_zero, List.set_cons_succ]; rfl
              refine seq_done ?_
              clear i1 i2 i3 i4 i6
              go_wp2_with fail
              go_roundw
              case rel => exact ⟨k + 1, j, by simp, rfl, by omega, by omega, by omega, Lib.hid ⟨.inr (by have q := HLT.out; rwa [show mid + m - 1 - k = mid + m - (k + 1) by omega] at q), HQ.out.2⟩, Lib.hid (HSW.out.read hB)⟩
              case measure => simp [intOf]; omega
          · obtain rfl : i = j := by omega
            have hlI : ¬ (i : Int) < i := by omega
            obtain ⟨en, hen⟩ : ∃ en, mid + m - i = en := ⟨_, rfl⟩
            have him : i ≤ m := by omega
            have hme : m ≤ en := by omega
            have heb : en ≤ b := by omega
            have hmid : i + (en - m) = mid := by omega
            have himd : i ≤ mid := by omega
            have hmde : mid ≤ en := by omega
            have HEN := Lib.hid (show (mid : Int) + m - i = (en : Int) by omega)
            have q1 : (i : Int) ≤ (mid : Int) + m := by omega
            have q2 : (i : Int) ≤ 1000000 := by omega
            obtain ⟨r1, r2, r3, r4, r5, r6⟩ := merge_halves (K := kX) (n := N) (d := d) toB (a := a) (s := i) (m := m) (e := en) (b := b) (by omega) him hme heb hb HS1.out HS2.out
              (fun z1 z2 => by
                rcases HQ.out.2 with e | e
                · exfalso; omega
                · rwa [show mid + m - 1 - i = en - 1 by omega] at e)
              (fun z1 z2 => by
                rcases HQ.out.1 with e | e
                · exfalso; omega
                · rwa [hen] at e)
            rw [hmid] at r3 r4 r6
            have HR1 := Lib.hid r1; have HR2 := Lib.hid r2; have HR3 := Lib.hid r3; have HR4 := Lib.hid r4; have HR5 := Lib.hid r5; have HR6 := Lib.hid r6
            clear r1 r2 r3 r4 r5 r6
            have HPR := Lib.hid (allP_rot HP.out him hme (show en ≤ N by omega))
            have HHM := Lib.hid hmid; have HHE := Lib.hid hen
            clear hmid hen
            go_upto_region 39 with fail
            rw [HEN.out]
            obtain ⟨V, rfl⟩ : ∃ U : World, U = V := ⟨_, rfl⟩
            have hro : (i < m ∧ m < en) ∨ (i < m ∧ ¬ m < en) ∨ ¬ i < m := by omega
            rcases hro with hr | hr | hr
            · obtain ⟨g1, g2⟩ := hr
              have g1R : (i : Int) < m := by omega
              have g2R : (m : Int) < en := by omega
              have HC := Lib.hid (rotate_calls HSW.out HP.out g1 g2 (show en ≤ N by omega) hN (.func (.func 58) #[] #[]))
              go_upto_region 41 with (go_at_call 116; refine HC.out.mono ?_; rintro e w2 ⟨rfl, e1⟩; have HSW1 := Lib.hid e1; clear e1)
              clear HC
              have hl3 : (a < i ∧ i < mid) ∨ (a < i ∧ ¬ i < mid) ∨ ¬ a < i := by omega
              rcases hl3 with hl | hl | hl
              · obtain ⟨g1, g2⟩ := hl
                have g1L : (a : Int) < i := by omega
                have g2L : (i : Int) < mid := by omega
                have HC := Lib.hid (IH.out w0 _ B g N cap _ a i mid (by omega) g1 g2 (by omega) hN HSW1.out HPR.out HR2.out HR3.out)
                go_upto_region 43 with (go_at_call 105; refine HC.out.mono ?_; rintro e w3 ⟨rfl, D2, e1, e2, e3, e4⟩; have HW1 := Lib.hid e1; have HZ1 := Lib.hid e2; have HP2 := Lib.hid e3; have HSW2 := Lib.hid e4; clear e1 e2 e3 e4)
                clear HC
                have hr3 : (mid < en ∧ en < b) ∨ (mid < en ∧ ¬ en < b) ∨ ¬ mid < en := by omega
                rcases hr3 with hr | hr | hr
                · obtain ⟨g1, g2⟩ := hr
                  have g1I : (mid : Int) < en := by omega
                  have g2I : (en : Int) < b := by omega
                  have HC := Lib.hid (IH.out w0 _ B g N cap _ mid en b (by omega) g1 g2 hb hN HSW2.out HP2.out (srt_same HR4.out (fun y z1 z2 => HW1.out.out y (.inr z1))) (srt_same HR5.out (fun y z1 z2 => HW1.out.out y (.inr (by omega)))))
                  go_wp2_with (go_at_call 105; refine HC.out.mono ?_; rintro e w4 ⟨rfl, D3, e1, e2, e3, e4⟩; have HW2 := Lib.hid e1; have HZ2 := Lib.hid e2; have HP3 := Lib.hid e3; have HSW3 := Lib.hid e4; clear e1 e2 e3 e4)
                  go_end0
                  obtain ⟨f1, f2⟩ := merge_join (K := kX) (n := N) (d := rot d i m en) (a := a) (mid := mid) (b := b) HW1.out HW2.out (by omega) (by omega) hb HZ1.out HZ2.out HR6.out
                  exact ⟨rfl, _, HR1.out.trans f1, f2, HP3.out, HSW3.out⟩
                · obtain ⟨g1, g2⟩ := hr
                  have g1I : (mid : Int) < en := by omega
                  have g2I : ¬ (en : Int) < b := by omega
                  have HZ2 : Hid (SrtF kX ltB D2 mid b) := Lib.hid (by (have z : b = en := by omega); rw [z]; exact srt_same HR4.out (fun y z1 z2 => HW1.out.out y (.inr z1)))
                  have HW2 := Lib.hid (Wk.refl (K := kX) (n := N) D2 mid b); have HP3 := HP2; have HSW3 := HSW2
                  go_wp2_with fail
                  go_end0
                  obtain ⟨f1, f2⟩ := merge_join (K := kX) (n := N) (d := rot d i m en) (a := a) (mid := mid) (b := b) HW1.out HW2.out (by omega) (by omega) hb HZ1.out HZ2.out HR6.out
                  exact ⟨rfl, _, HR1.out.trans f1, f2, HP3.out, HSW3.out⟩
                · have g1 := hr
                  have g1I : ¬ (mid : Int) < en := by omega
                  have HZ2 : Hid (SrtF kX ltB D2 mid b) := Lib.hid (by (have z : mid = en := by omega); rw [z]; exact srt_same HR5.out (fun y z1 z2 => HW1.out.out y (.inr (by omega))))
                  have HW2 := Lib.hid (Wk.refl (K := kX) (n := N) D2 mid b); have HP3 := HP2; have HSW3 := HSW2
                  go_wp2_with fail
                  go_end0
                  obtain ⟨f1, f2⟩ := merge_join (K := kX) (n := N) (d := rot d i m en) (a := a) (mid := mid) (b := b) HW1.out HW2.out (by omega) (by omega) hb HZ1.out HZ2.out HR6.out
                  exact ⟨rfl, _, HR1.out.trans f1, f2, HP3.out, HSW3.out⟩
              · obtain ⟨g1, g2⟩ := hl
                have g1L : (a : Int) < i := by omega
                have g2L : ¬ (i : Int) < mid := by omega
                have HZ1 : Hid (SrtF kX ltB (rot d i m en) a mid) := Lib.hid (by (have z : mid = i := by omega); rw [z]; exact HR2.out)
                obtain ⟨D2, hD2⟩ : ∃ D2, D2 = rot d i m en := ⟨_, rfl⟩
                have HW1 : Hid (Wk kX N (rot d i m en) D2 a mid) := Lib.hid (by rw [hD2]; exact Wk.refl (K := kX) (n := N) _ a mid)
                have HP2 : Hid (AllP N D2) := Lib.hid (by rw [hD2]; exact HPR.out)
                have HSW2 := HSW1; rw [← hD2] at HZ1 HSW2
                clear hD2
                go_upto_region 43 with fail
                have hr3 : (mid < en ∧ en < b) ∨ (mid < en ∧ ¬ en < b) ∨ ¬ mid < en := by omega
                rcases hr3 with hr | hr | hr
                · obtain ⟨g1, g2⟩ := hr
                  have g1I : (mid : Int) < en := by omega
                  have g2I : (en : Int) < b := by omega
                  have HC := Lib.hid (IH.out w0 _ B g N cap _ mid en b (by omega) g1 g2 hb hN HSW2.out HP2.out (srt_same HR4.out (fun y z1 z2 => HW1.out.out y (.inr z1))) (srt_same HR5.out (fun y z1 z2 => HW1.out.out y (.inr (by omega)))))
                  go_wp2_with (go_at_call 105; refine HC.out.mono ?_; rintro e w4 ⟨rfl, D3, e1, e2, e3, e4⟩; have HW2 := Lib.hid e1; have HZ2 := Lib.hid e2; have HP3 := Lib.hid e3; have HSW3 := Lib.hid e4; clear e1 e2 e3 e4)
                  go_end0
                  obtain ⟨f1, f2⟩ := merge_join (K := kX) (n := N) (d := rot d i m en) (a := a) (mid := mid) (b := b) HW1.out HW2.out (by omega) (by omega) hb HZ1.out HZ2.out HR6.out
                  exact ⟨rfl, _, HR1.out.trans f1, f2, HP3.out, HSW3.out⟩
                · obtain ⟨g1, g2⟩ := hr
                  have g1I : (mid : Int) < en := by omega
                  have g2I : ¬ (en : Int) < b := by omega
                  have HZ2 : Hid (SrtF kX ltB D2 mid b) := Lib.hid (by (have z : b = en := by omega); rw [z]; exact srt_same HR4.out (fun y z1 z2 => HW1.out.out y (.inr z1)))
                  have HW2 := Lib.hid (Wk.refl (K := kX) (n := N) D2 mid b); have HP3 := HP2; have HSW3 := HSW2
                  go_wp2_with fail
                  go_end0
                  obtain ⟨f1, f2⟩ := merge_join (K := kX) (n := N) (d := rot d i m en) (a := a) (mid := mid) (b := b) HW1.out HW2.out (by omega) (by omega) hb HZ1.out HZ2.out HR6.out
                  exact ⟨rfl, _, HR1.out.trans f1, f2, HP3.out, HSW3.out⟩
                · have g1 := hr
                  have g1I : ¬ (mid : Int) < en := by omega
                  have HZ2 : Hid (SrtF kX ltB D2 mid b) := Lib.hid (by (have z : mid = en := by omega); rw [z]; exact srt_same HR5.out (fun y z1 z2 => HW1.out.out y (.inr (by omega))))
                  have HW2 := Lib.hid (Wk.refl (K := kX) (n := N) D2 mid b); have HP3 := HP2; have HSW3 := HSW2
                  go_wp2_with fail
                  go_end0
                  obtain ⟨f1, f2⟩ := merge_join (K := kX) (n := N) (d := rot d i m en) (a := a) (mid := mid) (b := b) HW1.out HW2.out (by omega) (by omega) hb HZ1.out HZ2.out HR6.out
                  exact ⟨rfl, _, HR1.out.trans f1, f2, HP3.out, HSW3.out⟩
              · have g1 := hl
                have g1L : ¬ (a : Int) < i := by omega
                have HZ1 : Hid (SrtF kX ltB (rot d i m en) a mid) := Lib.hid (by (have z : a = i := by omega); rw [z]; exact HR3.out)
                obtain ⟨D2, hD2⟩ : ∃ D2, D2 = rot d i m en := ⟨_, rfl⟩
                have HW1 : Hid (Wk kX N (rot d i m en) D2 a mid) := Lib.hid (by rw [hD2]; exact Wk.refl (K := kX) (n := N) _ a mid)
                have HP2 : Hid (AllP N D2) := Lib.hid (by rw [hD2]; exact HPR.out)
                have HSW2 := HSW1; rw [← hD2] at HZ1 HSW2
                clear hD2
                go_upto_region 43 with fail
                have hr3 : (mid < en ∧ en < b) ∨ (mid < en ∧ ¬ en < b) ∨ ¬ mid < en := by omega
                rcases hr3 with hr | hr | hr
                · obtain ⟨g1, g2⟩ := hr
                  have g1I : (mid : Int) < en := by omega
                  have g2I : (en : Int) < b := by omega
                  have HC := Lib.hid (IH.out w0 _ B g N cap _ mid en b (by omega) g1 g2 hb hN HSW2.out HP2.out (srt_same HR4.out (fun y z1 z2 => HW1.out.out y (.inr z1))) (srt_same HR5.out (fun y z1 z2 => HW1.out.out y (.inr (by omega)))))
                  go_wp2_with (go_at_call 105; refine HC.out.mono ?_; rintro e w4 ⟨rfl, D3, e1, e2, e3, e4⟩; have HW2 := Lib.hid e1; have HZ2 := Lib.hid e2; have HP3 := Lib.hid e3; have HSW3 := Lib.hid e4; clear e1 e2 e3 e4)
                  go_end0
                  obtain ⟨f1, f2⟩ := merge_join (K := kX) (n := N) (d := rot d i m en) (a := a) (mid := mid) (b := b) HW1.out HW2.out (by omega) (by omega) hb HZ1.out HZ2.out HR6.out
                  exact ⟨rfl, _, HR1.out.trans f1, f2, HP3.out, HSW3.out⟩
                · obtain ⟨g1, g2⟩ := hr
                  have g1I : (mid : Int) < en := by omega
                  have g2I : ¬ (en : Int) < b := by omega
                  have HZ2 : Hid (SrtF kX ltB D2 mid b) := Lib.hid (by (have z : b = en := by omega); rw [z]; exact srt_same HR4.out (fun y z1 z2 => HW1.out.out y (.inr z1)))
                  have HW2 := Lib.hid (Wk.refl (K := kX) (n := N) D2 mid b); have HP3 := HP2; have HSW3 := HSW2
                  go_wp2_with fail
                  go_end0
                  obtain ⟨f1, f2⟩ := merge_join (K := kX) (n := N) (d := rot d i m en) (a := a) (mid := mid) (b := b) HW1.out HW2.out (by omega) (by omega) hb HZ1.out HZ2.out HR6.out
                  exact ⟨rfl, _, HR1.out.trans f1, f2, HP3.out, HSW3.out⟩
                · have g1 := hr
                  have g1I : ¬ (mid : Int) < en := by omega
                  have HZ2 : Hid (SrtF kX ltB D2 mid b) := Lib.hid (by (have z : mid = en := by omega); rw [z]; exact srt_same HR5.out (fun y z1 z2 => HW1.out.out y (.inr (by omega))))
                  have HW2 := Lib.hid (Wk.refl (K := kX) (n := N) D2 mid b); have HP3 := HP2; have HSW3 := HSW2
                  go_wp2_with fail
                  go_end0
                  obtain ⟨f1, f2⟩ := merge_join (K := kX) (n := N) (d := rot d i m en) (a := a) (mid := mid) (b := b) HW1.out HW2.out (by omega) (by omega) hb HZ1.out HZ2.out HR6.out
                  exact ⟨rfl, _, HR1.out.trans f1, f2, HP3.out, HSW3.out⟩
            · obtain ⟨g1, g2⟩ := hr
              have g1R : (i : Int) < m := by omega
              have g2R : ¬ (m : Int) < en := by omega
              have HSW1 : Hid (SW w0 B g N cap (rot d i m en) V) := Lib.hid (by rw [show en = m by omega, rot_nilR d him]; exact HSW.out)
              go_upto_region 41 with fail
              have hl3 : (a < i ∧ i < mid) ∨ (a < i ∧ ¬ i < mid) ∨ ¬ a < i := by omega
              rcases hl3 with hl | hl | hl
              · obtain ⟨g1, g2⟩ := hl
                have g1L : (a : Int) < i := by omega
                have g2L : (i : Int) < mid := by omega
                have HC := Lib.hid (IH.out w0 _ B g N cap _ a i mid (by omega) g1 g2 (by omega) hN HSW1.out HPR.out HR2.out HR3.out)
                go_upto_region 43 with (go_at_call 105; refine HC.out.mono ?_; rintro e w3 ⟨rfl, D2, e1, e2, e3, e4⟩; have HW1 := Lib.hid e1; have HZ1 := Lib.hid e2; have HP2 := Lib.hid e3; have HSW2 := Lib.hid e4; clear e1 e2 e3 e4)
                clear HC
                have hr3 : (mid < en ∧ en < b) ∨ (mid < en ∧ ¬ en < b) ∨ ¬ mid < en := by omega
                rcases hr3 with hr | hr | hr
                · obtain ⟨g1, g2⟩ := hr
                  have g1I : (mid : Int) < en := by omega
                  have g2I : (en : Int) < b := by omega
                  have HC := Lib.hid (IH.out w0 _ B g N cap _ mid en b (by omega) g1 g2 hb hN HSW2.out HP2.out (srt_same HR4.out (fun y z1 z2 => HW1.out.out y (.inr z1))) (srt_same HR5.out (fun y z1 z2 => HW1.out.out y (.inr (by omega)))))
                  go_wp2_with (go_at_call 105; refine HC.out.mono ?_; rintro e w4 ⟨rfl, D3, e1, e2, e3, e4⟩; have HW2 := Lib.hid e1; have HZ2 := Lib.hid e2; have HP3 := Lib.hid e3; have HSW3 := Lib.hid e4; clear e1 e2 e3 e4)
                  go_end0
                  obtain ⟨f1, f2⟩ := merge_join (K := kX) (n := N) (d := rot d i m en) (a := a) (mid := mid) (b := b) HW1.out HW2.out (by omega) (by omega) hb HZ1.out HZ2.out HR6.out
                  exact ⟨rfl, _, HR1.out.trans f1, f2, HP3.out, HSW3.out⟩
                · obtain ⟨g1, g2⟩ := hr
                  have g1I : (mid : Int) < en := by omega
                  have g2I : ¬ (en : Int) < b := by omega
                  have HZ2 : Hid (SrtF kX ltB D2 mid b) := Lib.hid (by (have z : b = en := by omega); rw [z]; exact srt_same HR4.out (fun y z1 z2 => HW1.out.out y (.inr z1)))
                  have HW2 := Lib.hid (Wk.refl (K := kX) (n := N) D2 mid b); have HP3 := HP2; have HSW3 := HSW2
                  go_wp2_with fail
                  go_end0
                  obtain ⟨f1, f2⟩ := merge_join (K := kX) (n := N) (d := rot d i m en) (a := a) (mid := mid) (b := b) HW1.out HW2.out (by omega) (by omega) hb HZ1.out HZ2.out HR6.out
                  exact ⟨rfl, _, HR1.out.trans f1, f2, HP3.out, HSW3.out⟩
                · have g1 := hr
                  have g1I : ¬ (mid : Int) < en := by omega
                  have HZ2 : Hid (SrtF kX ltB D2 mid b) := Lib.hid (by (have z : mid = en := by omega); rw [z]; exact srt_same HR5.out (fun y z1 z2 => HW1.out.out y (.inr (by omega))))
                  have HW2 := Lib.hid (Wk.refl (K := kX) (n := N) D2 mid b); have HP3 := HP2; have HSW3 := HSW2
                  go_wp2_with fail
                  go_end0
                  obtain ⟨f1, f2⟩ := merge_join (K := kX) (n := N) (d := rot d i m en) (a := a) (mid := mid) (b := b) HW1.out HW2.out (by omega) (by omega) hb HZ1.out HZ2.out HR6.out
                  exact ⟨rfl, _, HR1.out.trans f1, f2, HP3.out, HSW3.out⟩
              · obtain ⟨g1, g2⟩ := hl
                have g1L : (a : Int) < i := by omega
                have g2L : ¬ (i : Int) < mid := by omega
                have HZ1 : Hid (SrtF kX ltB (rot d i m en) a mid) := Lib.hid (by (have z : mid = i := by omega); rw [z]; exact HR2.out)
                obtain ⟨D2, hD2⟩ : ∃ D2, D2 = rot d i m en := ⟨_, rfl⟩
                have HW1 : Hid (Wk kX N (rot d i m en) D2 a mid) := Lib.hid (by rw [hD2]; exact Wk.refl (K := kX) (n := N) _ a mid)
                have HP2 : Hid (AllP N D2) := Lib.hid (by rw [hD2]; exact HPR.out)
                have HSW2 := HSW1; rw [← hD2] at HZ1 HSW2
                clear hD2
                go_upto_region 43 with fail
                have hr3 : (mid < en ∧ en < b) ∨ (mid < en ∧ ¬ en < b) ∨ ¬ mid < en := by omega
                rcases hr3 with hr | hr | hr
                · obtain ⟨g1, g2⟩ := hr
                  have g1I : (mid : Int) < en := by omega
                  have g2I : (en : Int) < b := by omega
                  have HC := Lib.hid (IH.out w0 _ B g N cap _ mid en b (by omega) g1 g2 hb hN HSW2.out HP2.out (srt_same HR4.out (fun y z1 z2 => HW1.out.out y (.inr z1))) (srt_same HR5.out (fun y z1 z2 => HW1.out.out y (.inr (by omega)))))
                  go_wp2_with (go_at_call 105; refine HC.out.mono ?_; rintro e w4 ⟨rfl, D3, e1, e2, e3, e4⟩; have HW2 := Lib.hid e1; have HZ2 := Lib.hid e2; have HP3 := Lib.hid e3; have HSW3 := Lib.hid e4; clear e1 e2 e3 e4)
                  go_end0
                  obtain ⟨f1, f2⟩ := merge_join (K := kX) (n := N) (d := rot d i m en) (a := a) (mid := mid) (b := b) HW1.out HW2.out (by omega) (by omega) hb HZ1.out HZ2.out HR6.out
                  exact ⟨rfl, _, HR1.out.trans f1, f2, HP3.out, HSW3.out⟩
                · obtain ⟨g1, g2⟩ := hr
                  have g1I : (mid : Int) < en := by omega
                  have g2I : ¬ (en : Int) < b := by omega
                  have HZ2 : Hid (SrtF kX ltB D2 mid b) := Lib.hid (by (have z : b = en := by omega); rw [z]; exact srt_same HR4.out (fun y z1 z2 => HW1.out.out y (.inr z1)))
                  have HW2 := Lib.hid (Wk.refl (K := kX) (n := N) D2 mid b); have HP3 := HP2; have HSW3 := HSW2
                  go_wp2_with fail
                  go_end0
                  obtain ⟨f1, f2⟩ := merge_join (K := kX) (n := N) (d := rot d i m en) (a := a) (mid := mid) (b := b) HW1.out HW2.out (by omega) (by omega) hb HZ1.out HZ2.out HR6.out
                  exact ⟨rfl, _, HR1.out.trans f1, f2, HP3.out, HSW3.out⟩
                · have g1 := hr
                  have g1I : ¬ (mid : Int) < en := by omega
                  have HZ2 : Hid (SrtF kX ltB D2 mid b) := Lib.hid (by (have z : mid = en := by omega); rw [z]; exact srt_same HR5.out (fun y z1 z2 => HW1.out.out y (.inr (by omega))))
                  have HW2 := Lib.hid (Wk.refl (K := kX) (n := N) D2 mid b); have HP3 := HP2; have HSW3 := HSW2
                  go_wp2_with fail
                  go_end0
                  obtain ⟨f1, f2⟩ := merge_join (K := kX) (n := N) (d := rot d i m en) (a := a) (mid := mid) (b := b) HW1.out HW2.out (by omega) (by omega) hb HZ1.out HZ2.out HR6.out
                  exact ⟨rfl, _, HR1.out.trans f1, f2, HP3.out, HSW3.out⟩
              · have g1 := hl
                have g1L : ¬ (a : Int) < i := by omega
                have HZ1 : Hid (SrtF kX ltB (rot d i m en) a mid) := Lib.hid (by (have z : a = i := by omega); rw [z]; exact HR3.out)
                obtain ⟨D2, hD2⟩ : ∃ D2, D2 = rot d i m en := ⟨_, rfl⟩
                have HW1 : Hid (Wk kX N (rot d i m en) D2 a mid) := Lib.hid (by rw [hD2]; exact Wk.refl (K := kX) (n := N) _ a mid)
                have HP2 : Hid (AllP N D2) := Lib.hid (by rw [hD2]; exact HPR.out)
                have HSW2 := HSW1; rw [← hD2] at HZ1 HSW2
                clear hD2
                go_upto_region 43 with fail
                have hr3 : (mid < en ∧ en < b) ∨ (mid < en ∧ ¬ en < b) ∨ ¬ mid < en := by omega
                rcases hr3 with hr | hr | hr
                · obtain ⟨g1, g2⟩ := hr
                  have g1I : (mid : Int) < en := by omega
                  have g2I : (en : Int) < b := by omega
                  have HC := Lib.hid (IH.out w0 _ B g N cap _ mid en b (by omega) g1 g2 hb hN HSW2.out HP2.out (srt_same HR4.out (fun y z1 z2 => HW1.out.out y (.inr z1))) (srt_same HR5.out (fun y z1 z2 => HW1.out.out y (.inr (by omega)))))
                  go_wp2_with (go_at_call 105; refine HC.out.mono ?_; rintro e w4 ⟨rfl, D3, e1, e2, e3, e4⟩; have HW2 := Lib.hid e1; have HZ2 := Lib.hid e2; have HP3 := Lib.hid e3; have HSW3 := Lib.hid e4; clear e1 e2 e3 e4)
                  go_end0
                  obtain ⟨f1, f2⟩ := merge_join (K := kX) (n := N) (d := rot d i m en) (a := a) (mid := mid) (b := b) HW1.out HW2.out (by omega) (by omega) hb HZ1.out HZ2.out HR6.out
                  exact ⟨rfl, _, HR1.out.trans f1, f2, HP3.out, HSW3.out⟩
                · obtain ⟨g1, g2⟩ := hr
                  have g1I : (mid : Int) < en := by omega
                  have g2I : ¬ (en : Int) < b := by omega
                  have HZ2 : Hid (SrtF kX ltB D2 mid b) := Lib.hid (by (have z : b = en := by omega); rw [z]; exact srt_same HR4.out (fun y z1 z2 => HW1.out.out y (.inr z1)))
                  have HW2 := Lib.hid (Wk.refl (K := kX) (n := N) D2 mid b); have HP3 := HP2; have HSW3 := HSW2
                  go_wp2_with fail
                  go_end0
                  obtain ⟨f1, f2⟩ := merge_join (K := kX) (n := N) (d := rot d i m en) (a := a) (mid := mid) (b := b) HW1.out HW2.out (by omega) (by omega) hb HZ1.out HZ2.out HR6.out
                  exact ⟨rfl, _, HR1.out.trans f1, f2, HP3.out, HSW3.out⟩
                · have g1 := hr
                  have g1I : ¬ (mid : Int) < en := by omega
                  have HZ2 : Hid (SrtF kX ltB D2 mid b) := Lib.hid (by (have z : mid = en := by omega); rw [z]; exact srt_same HR5.out (fun y z1 z2 => HW1.out.out y (.inr (by omega))))
                  have HW2 := Lib.hid (Wk.refl (K := kX) (n := N) D2 mid b); have HP3 := HP2; have HSW3 := HSW2
                  go_wp2_with fail
                  go_end0
                  obtain ⟨f1, f2⟩ := merge_join (K := kX) (n := N) (d := rot d i m en) (a := a) (mid := mid) (b := b) HW1.out HW2.out (by omega) (by omega) hb HZ1.out HZ2.out HR6.out
                  exact ⟨rfl, _, HR1.out.trans f1, f2, HP3.out, HSW3.out⟩
            · have g1 := hr
              have g1R : ¬ (i : Int) < m := by omega
              have HSW1 : Hid (SW w0 B g N cap (rot d i m en) V) := Lib.hid (by rw [show i = m by omega, rot_nilL d hme]; exact HSW.out)
              go_upto_region 41 with fail
              have hl3 : (a < i ∧ i < mid) ∨ (a < i ∧ ¬ i < mid) ∨ ¬ a < i := by omega
              rcases hl3 with hl | hl | hl
              · obtain ⟨g1, g2⟩ := hl
                have g1L : (a : Int) < i := by omega
                have g2L : (i : Int) < mid := by omega
                have HC := Lib.hid (IH.out w0 _ B g N cap _ a i mid (by omega) g1 g2 (by omega) hN HSW1.out HPR.out HR2.out HR3.out)
                go_upto_region 43 with (go_at_call 105; refine HC.out.mono ?_; rintro e w3 ⟨rfl, D2, e1, e2, e3, e4⟩; have HW1 := Lib.hid e1; have HZ1 := Lib.hid e2; have HP2 := Lib.hid e3; have HSW2 := Lib.hid e4; clear e1 e2 e3 e4)
                clear HC
                have hr3 : (mid < en ∧ en < b) ∨ (mid < en ∧ ¬ en < b) ∨ ¬ mid < en := by omega
                rcases hr3 with hr | hr | hr
                · obtain ⟨g1, g2⟩ := hr
                  have g1I : (mid : Int) < en := by omega
                  have g2I : (en : Int) < b := by omega
                  have HC := Lib.hid (IH.out w0 _ B g N cap _ mid en b (by omega) g1 g2 hb hN HSW2.out HP2.out (srt_same HR4.out (fun y z1 z2 => HW1.out.out y (.inr z1))) (srt_same HR5.out (fun y z1 z2 => HW1.out.out y (.inr (by omega)))))
                  go_wp2_with (go_at_call 105; refine HC.out.mono ?_; rintro e w4 ⟨rfl, D3, e1, e2, e3, e4⟩; have HW2 := Lib.hid e1; have HZ2 := Lib.hid e2; have HP3 := Lib.hid e3; have HSW3 := Lib.hid e4; clear e1 e2 e3 e4)
                  go_end0
                  obtain ⟨f1, f2⟩ := merge_join (K := kX) (n := N) (d := rot d i m en) (a := a) (mid := mid) (b := b) HW1.out HW2.out (by omega) (by omega) hb HZ1.out HZ2.out HR6.out
                  exact ⟨rfl, _, HR1.out.trans f1, f2, HP3.out, HSW3.out⟩
                · obtain ⟨g1, g2⟩ := hr
                  have g1I : (mid : Int) < en := by omega
                  have g2I : ¬ (en : Int) < b := by omega
                  have HZ2 : Hid (SrtF kX ltB D2 mid b) := Lib.hid (by (have z : b = en := by omega); rw [z]; exact srt_same HR4.out (fun y z1 z2 => HW1.out.out y (.inr z1)))
                  have HW2 := Lib.hid (Wk.refl (K := kX) (n := N) D2 mid b); have HP3 := HP2; have HSW3 := HSW2
                  go_wp2_with fail
                  go_end0
                  obtain ⟨f1, f2⟩ := merge_join (K := kX) (n := N) (d := rot d i m en) (a := a) (mid := mid) (b := b) HW1.out HW2.out (by omega) (by omega) hb HZ1.out HZ2.out HR6.out
                  exact ⟨rfl, _, HR1.out.trans f1, f2, HP3.out, HSW3.out⟩
                · have g1 := hr
                  have g1I : ¬ (mid : Int) < en := by omega
                  have HZ2 : Hid (SrtF kX ltB D2 mid b) := Lib.hid (by (have z : mid = en := by omega); rw [z]; exact srt_same HR5.out (fun y z1 z2 => HW1.out.out y (.inr (by omega))))
                  have HW2 := Lib.hid (Wk.refl (K := kX) (n := N) D2 mid b); have HP3 := HP2; have HSW3 := HSW2
                  go_wp2_with fail
                  go_end0
                  obtain ⟨f1, f2⟩ := merge_join (K := kX) (n := N) (d := rot d i m en) (a := a) (mid := mid) (b := b) HW1.out HW2.out (by omega) (by omega) hb HZ1.out HZ2.out HR6.out
                  exact ⟨rfl, _, HR1.out.trans f1, f2, HP3.out, HSW3.out⟩
              · obtain ⟨g1, g2⟩ := hl
                have g1L : (a : Int) < i := by omega
                have g2L : ¬ (i : Int) < mid := by omega
                have HZ1 : Hid (SrtF kX ltB (rot d i m en) a mid) := Lib.hid (by (have z : mid = i := by omega); rw [z]; exact HR2.out)
                obtain ⟨D2, hD2⟩ : ∃ D2, D2 = rot d i m en := ⟨_, rfl⟩
                have HW1 : Hid (Wk kX N (rot d i m en) D2 a mid) := Lib.hid (by rw [hD2]; exact Wk.refl (K := kX) (n := N) _ a mid)
                have HP2 : Hid (AllP N D2) := Lib.hid (by rw [hD2]; exact HPR.out)
                have HSW2 := HSW1; rw [← hD2] at HZ1 HSW2
                clear hD2
                go_upto_region 43 with fail
                have hr3 : (mid < en ∧ en < b) ∨ (mid < en ∧ ¬ en < b) ∨ ¬ mid < en := by omega
                rcases hr3 with hr | hr | hr
                · obtain ⟨g1, g2⟩ := hr
                  have g1I : (mid : Int) < en := by omega
                  have g2I : (en : Int) < b := by omega
                  have HC := Lib.hid (IH.out w0 _ B g N cap _ mid en b (by omega) g1 g2 hb hN HSW2.out HP2.out (srt_same HR4.out (fun y z1 z2 => HW1.out.out y (.inr z1))) (srt_same HR5.out (fun y z1 z2 => HW1.out.out y (.inr (by omega)))))
                  go_wp2_with (go_at_call 105; refine HC.out.mono ?_; rintro e w4 ⟨rfl, D3, e1, e2, e3, e4⟩; have HW2 := Lib.hid e1; have HZ2 := Lib.hid e2; have HP3 := Lib.hid e3; have HSW3 := Lib.hid e4; clear e1 e2 e3 e4)
                  go_end0
                  obtain ⟨f1, f2⟩ := merge_join (K := kX) (n := N) (d := rot d i m en) (a := a) (mid := mid) (b := b) HW1.out HW2.out (by omega) (by omega) hb HZ1.out HZ2.out HR6.out
                  exact ⟨rfl, _, HR1.out.trans f1, f2, HP3.out, HSW3.out⟩
                · obtain ⟨g1, g2⟩ := hr
                  have g1I : (mid : Int) < en := by omega
                  have g2I : ¬ (en : Int) < b := by omega
                  have HZ2 : Hid (SrtF kX ltB D2 mid b) := Lib.hid (by (have z : b = en := by omega); rw [z]; exact srt_same HR4.out (fun y z1 z2 => HW1.out.out y (.inr z1)))
                  have HW2 := Lib.hid (Wk.refl (K := kX) (n := N) D2 mid b); have HP3 := HP2; have HSW3 := HSW2
                  go_wp2_with fail
                  go_end0
                  obtain ⟨f1, f2⟩ := merge_join (K := kX) (n := N) (d := rot d i m en) (a := a) (mid := mid) (b := b) HW1.out HW2.out (by omega) (by omega) hb HZ1.out HZ2.out HR6.out
                  exact ⟨rfl, _, HR1.out.trans f1, f2, HP3.out, HSW3.out⟩
                · have g1 := hr
                  have g1I : ¬ (mid : Int) < en := by omega
                  have HZ2 : Hid (SrtF kX ltB D2 mid b) := Lib.hid (by (have z : mid = en := by omega); rw [z]; exact srt_same HR5.out (fun y z1 z2 => HW1.out.out y (.inr (by omega))))
                  have HW2 := Lib.hid (Wk.refl (K := kX) (n := N) D2 mid b); have HP3 := HP2; have HSW3 := HSW2
                  go_wp2_with fail
                  go_end0
                  obtain ⟨f1, f2⟩ := merge_join (K := kX) (n := N) (d := rot d i m en) (a := a) (mid := mid) (b := b) HW1.out HW2.out (by omega) (by omega) hb HZ1.out HZ2.out HR6.out
                  exact ⟨rfl, _, HR1.out.trans f1, f2, HP3.out, HSW3.out⟩
              · have g1 := hl
                have g1L : ¬ (a : Int) < i := by omega
                have HZ1 : Hid (SrtF kX ltB (rot d i m en) a mid) := Lib.hid (by (have z : a = i := by omega); rw [z]; exact HR3.out)
                obtain ⟨D2, hD2⟩ : ∃ D2, D2 = rot d i m en := ⟨_, rfl⟩
                have HW1 : Hid (Wk kX N (rot d i m en) D2 a mid) := Lib.hid (by rw [hD2]; exact Wk.refl (K := kX) (n := N) _ a mid)
                have HP2 : Hid (AllP N D2) := Lib.hid (by rw [hD2]; exact HPR.out)
                have HSW2 := HSW1; rw [← hD2] at HZ1 HSW2
                clear hD2
                go_upto_region 43 with fail
                have hr3 : (mid < en ∧ en < b) ∨ (mid < en ∧ ¬ en < b) ∨ ¬ mid < en := by omega
                rcases hr3 with hr | hr | hr
                · obtain ⟨g1, g2⟩ := hr
                  have g1I : (mid : Int) < en := by omega
                  have g2I : (en : Int) < b := by omega
                  have HC := Lib.hid (IH.out w0 _ B g N cap _ mid en b (by omega) g1 g2 hb hN HSW2.out HP2.out (srt_same HR4.out (fun y z1 z2 => HW1.out.out y (.inr z1))) (srt_same HR5.out (fun y z1 z2 => HW1.out.out y (.inr (by omega)))))
                  go_wp2_with (go_at_call 105; refine HC.out.mono ?_; rintro e w4 ⟨rfl, D3, e1, e2, e3, e4⟩; have HW2 := Lib.hid e1; have HZ2 := Lib.hid e2; have HP3 := Lib.hid e3; have HSW3 := Lib.hid e4; clear e1 e2 e3 e4)
                  go_end0
                  obtain ⟨f1, f2⟩ := merge_join (K := kX) (n := N) (d := rot d i m en) (a := a) (mid := mid) (b := b) HW1.out HW2.out (by omega) (by omega) hb HZ1.out HZ2.out HR6.out
                  exact ⟨rfl, _, HR1.out.trans f1, f2, HP3.out, HSW3.out⟩
                · obtain ⟨g1, g2⟩ := hr
                  have g1I : (mid : Int) < en := by omega
                  have g2I : ¬ (en : Int) < b := by omega
                  have HZ2 : Hid (SrtF kX ltB D2 mid b) := Lib.hid (by (have z : b = en := by omega); rw [z]; exact srt_same HR4.out (fun y z1 z2 => HW1.out.out y (.inr z1)))
                  have HW2 := Lib.hid (Wk.refl (K := kX) (n := N) D2 mid b); have HP3 := HP2; have HSW3 := HSW2
                  go_wp2_with fail
                  go_end0
                  obtain ⟨f1, f2⟩ := merge_join (K := kX) (n := N) (d := rot d i m en) (a := a) (mid := mid) (b := b) HW1.out HW2.out (by omega) (by omega) hb HZ1.out HZ2.out HR6.out
                  exact ⟨rfl, _, HR1.out.trans f1, f2, HP3.out, HSW3.out⟩
                · have g1 := hr
                  have g1I : ¬ (mid : Int) < en := by omega
                  have HZ2 : Hid (SrtF kX ltB D2 mid b) := Lib.hid (by (have z : mid = en := by omega); rw [z]; exact srt_same HR5.out (fun y z1 z2 => HW1.out.out y (.inr (by omega))))
                  have HW2 := Lib.hid (Wk.refl (K := kX) (n := N) D2 mid b); have HP3 := HP2; have HSW3 := HSW2
                  go_wp2_with fail
                  go_end0
                  obtain ⟨f1, f2⟩ := merge_join (K := kX) (n := N) (d := rot d i m en) (a := a) (mid := mid) (b := b) HW1.out HW2.out (by omega) (by omega) hb HZ1.out HZ2.out HR6.out
                  exact ⟨rfl, _, HR1.out.trans f1, f2, HP3.out, HSW3.out⟩
end Go.Proofs.Ythhfcambdmdgfaa

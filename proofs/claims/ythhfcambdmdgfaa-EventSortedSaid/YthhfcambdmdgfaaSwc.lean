import Derived.Test.YthhfcambdmdgfaaSwb
import Derived.IntWalk
namespace Go.Proofs.Ythhfcambdmdgfaa
open Go.RowKit Go.Maps Srt
set_option linter.unusedVariables false
set_option linter.unusedSimpArgs false
def kX (p : OX) : ByteArray := kTO p.1
/-- Behind a piece of work: sorted, each class in its order. -/
def Done (w0 : World) (B g N cap : Nat) (d : Nat → OX) (a b : Nat) (e : Ending) (w' : World) : Prop := e = .returned (.tuple #[]) ∧ ∃ d', Wk kX N d d' a b ∧ SrtF kX ltB d' a b ∧ AllP N d' ∧ SW w0 B g N cap d' w'
set_option maxRecDepth 100000 in
set_option maxHeartbeats 8000000 in
theorem insS_calls {w0 W : World} {B g N cap : Nat} {d : Nat → OX} (h : SW w0 B g N cap d W) (hP : AllP N d) {a b : Nat} (hab : a ≤ b) (hb : b ≤ N) (hN : N ≤ 1000000) :
    Calls Try.prog 104 #[.slice (some ⟨g, 0, none⟩) N cap, .int .i64 (a : Int), .int .i64 (b : Int), .func (.func 58) #[] #[]] W (Done w0 B g N cap d a b) := by
  have HSW0 := Lib.hid h; have HP := Lib.hid hP
  clear h hP
  have ha1 : (a : Int) ≤ 1000000 := by omega
  have hb1 : (b : Int) ≤ 1000000 := by omega
  go_enter Try.func104, Try.ntmps104
  go_wp2_with fail
  go_loopw [8] (fun si wr => ∃ (i : Nat) (d1 : Nat → OX), si = .int .i64 (i : Int) ∧ a + 1 ≤ i ∧ i ≤ b + 1 ∧ Hid (Wk kX N d d1 a b ∧ SrtF kX ltB d1 a i ∧ AllP N d1 ∧ SW w0 B g N cap d1 wr)) (fun si _ => b + 1 - (intOf si).toNat)
  case atStart => exact ⟨a + 1, d, by simp, by omega, by omega, Lib.hid ⟨Wk.refl _ _ _, (fun i j h1 h2 h3 => by omega), HP.out, HSW0.out⟩⟩
  case round =>
    obtain ⟨i, d1, rfl, hi1, hi2, HD⟩ := hrel
    by_cases hib : i < b
    · have hiI : (i : Int) < b := by omega
      have hi0 : (a : Int) < i := by omega
      go_wp2_with fail
      go_loopw [9] (fun sj wr => ∃ (j : Nat), sj = .int .i64 (j : Int) ∧ a ≤ j ∧ j ≤ i ∧ Hid ((∀ y, j ≤ y → y < i → ltB (kX (d1 i)) (kX (d1 y)) = true) ∧ SW w0 B g N cap (rot d1 j i (i + 1)) wr)) (fun sj _ => (intOf sj).toNat)
      case atStart => exact ⟨i, rfl, by omega, Nat.le_refl _, Lib.hid ⟨(fun y h1 h2 => by omega), by rw [rot_nilL d1 (by omega)]; exact HD.out.2.2.2⟩⟩
      case round =>
        obtain ⟨j, rfl, hj1, hj2, HJ⟩ := hrel
        have OUT : Hid (∀ V' : World, SW w0 B g N cap (rot d1 j i (i + 1)) V' → (∀ y, a ≤ y → y < j → ltB (kX (d1 i)) (kX (d1 y)) = false) → (Wk kX N d (rot d1 j i (i + 1)) a b ∧ SrtF kX ltB (rot d1 j i (i + 1)) a (i + 1) ∧ AllP N (rot d1 j i (i + 1)) ∧ SW w0 B g N cap (rot d1 j i (i + 1)) V')) := Lib.hid fun V' hV hlo => by
          obtain ⟨r1, r2⟩ := merge_last (K := kX) (n := N) (d := d1) toB (a := a) (i := j) (m := i) hj1 hj2 (by omega) HD.out.2.1 hlo HJ.out.1
          exact ⟨HD.out.1.trans (r1.wider (Nat.le_refl _) (by omega)), r2, allP_rot HD.out.2.2.1 hj2 (by omega) (by omega), hV⟩
        have HSW := Lib.hid HJ.out.2
        obtain ⟨V, rfl⟩ : ∃ V : World, V = wr := ⟨_, rfl⟩
        by_cases hja : a < j
        · have hjI : (a : Int) < j := by omega
          have hk1 : ((j : Int) - 1).toNat = j - 1 := by omega
          have hk2 : (0 : Int) ≤ (j : Int) - 1 := by omega
          have hk3 : (j : Int) - 1 < N := by omega
          have hk4 : (1 : Int) ≤ j := by omega
          have hk6 : decide (a < j) = true := decide_eq_true hja
          have hk7 : IntKind.i64.wrap ((j : Int) - 1) = (j : Int) - 1 := IntWalk.i64_in _ (by omega)
          have hk8 : (j : Int) < N := by omega
          have hk9 : 1 ≤ j := by omega
          have HLX := Lib.hid (show j < N by omega); have HLY := Lib.hid (show j - 1 < N by omega)
          have hPk := allP_rot HD.out.2.2.1 (s := j) (m := i) (e := i + 1) hj2 (by omega) (by omega)
          have hDX := Lib.hid (show rot d1 j i (i + 1) j = d1 i by unfold rot; rw [if_pos (by omega), if_pos (by omega)]; congr 1; omega)
          have hDY := Lib.hid (show rot d1 j i (i + 1) (j - 1) = d1 (j - 1) from rot_out _ _ _ _ (by omega))
          have HSTEP := Lib.hid (show swF (rot d1 j i (i + 1)) j (j - 1) = rot d1 (j - 1) i (i + 1) by
            have q := rot_down d1 (k := j - 1) (m := i) (by omega)
            rwa [show j - 1 + 1 = j by omega] at q)
          have HLT : Hid (∀ c, cmpO (rot d1 j i (i + 1) j).1 (rot d1 j i (i + 1) (j - 1)).1 = c → decide (c < 0) = ltB (kX (d1 i)) (kX (d1 (j - 1)))) := Lib.hid fun c hc => by rw [← hc, cmpO_lt, hDX.out, hDY.out]; rfl
          obtain ⟨dk, hdk⟩ : ∃ dk, rot d1 j i (i + 1) = dk := ⟨_, rfl⟩
          rw [hdk] at HSW hPk HSTEP HLT
          have HDK := Lib.hid hdk
          clear hdk hDX hDY
          obtain ⟨zx, ax, nx, cx, ex⟩ := hPk _ HLX.out
          obtain ⟨zy, ay, ny, cy, ey⟩ := hPk _ HLY.out
          have Q1 := Lib.hid (HSW.out.at HLX.out); have Q2 := Lib.hid (HSW.out.at HLY.out)
          have HC1 := Lib.hid (fun (U : World) => cmp_calls U (hPk _ HLX.out) (hPk _ HLY.out))
          have HC2 := Lib.hid (fun (U : World) => cmp_calls U (hPk _ HLY.out) (hPk _ HLX.out))
          obtain ⟨⟨x, sx⟩, hx⟩ : ∃ p, dk (j) = p := ⟨_, rfl⟩
          obtain ⟨⟨y, sy⟩, hy⟩ : ∃ p, dk (j - 1) = p := ⟨_, rfl⟩
          rw [hx] at Q1 ex HC1 HC2; rw [hy] at Q2 ey HC1 HC2
          simp only at ex ey HC1 HC2
          subst ex; subst ey
          unfold objV at HC1 HC2
          have HX := Lib.hid hx; have HY := Lib.hid hy
          clear hx hy hPk zx zy
          obtain ⟨c, hc⟩ : ∃ c, cmpO x y = c := ⟨_, rfl⟩
          have HL2 := Lib.hid (HLT.out c (by rw [HX.out, HY.out]; exact hc))
          rw [hc] at HC1
          clear hc HLT
          have hB := Below.refl V.heap.size V
          by_cases hcn : c < 0
          · have HLT := Lib.hid (show ltB (kX (d1 i)) (kX (d1 (j - 1))) = true by rw [← HL2.out]; exact decide_eq_true hcn)
            go_upto_region 4 with fail
            have hB := hB.drew
            refine region_seq (fun w' => Below V.heap.size V w') [(0, true), (1, true), (2, true), (3, true), (4, true), (5, true), (6, true), (7, true), (8, true), (9, true), (10, true), (11, true), (12, true), (13, true), (14, false), (15, true), (16, true)] (by kernel_rfl) (by kernel_rfl) (fun _ _ _ _ h => h) hB ?_
            try generalize World.drew _ = wS at hB ⊢
            refine seq_take (v := ?_) (a' := ?_) (some 18) rfl rfl (by rfl) ?_ ?_ ?_
            rotate_left; rotate_left
            · intro w' hS; go_simp; with_reducible rfl
            · simp only [Act.put, List.setIfInBounds_toArray, List.set_cons_zero, List.set_cons_succ]; rfl
            refine seq_take (v := ?_) (a' := ?_) (some 19) rfl rfl (by rfl) ?_ ?_ ?_
            rotate_left; rotate_left
            · intro w' hS; go_simp; with_reducible rfl
            · simp only [Act.put, List.setIfInBounds_toArray, List.set_cons_zero, List.set_cons_succ]; rfl
            refine seq_take (v := ?_) (a' := ?_) (some 20) rfl rfl (by rfl) ?_ ?_ ?_
            rotate_left; rotate_left
            · intro w' hS; go_simp; with_reducible rfl
            · simp only [Act.put, List.setIfInBounds_toArray, List.set_cons_zero, List.set_cons_succ]; rfl
            refine seq_take (v := ?_) (a' := ?_) (some 21) rfl rfl (by rfl) ?_ ?_ ?_
            rotate_left; rotate_left
            · intro w' hS; go_simp; with_reducible rfl
            · simp only [Act.put, List.setIfInBounds_toArray, List.set_cons_zero, List.set_cons_succ]; rfl
            refine seq_take (v := ?_) (a' := ?_) (some 22) rfl rfl (by rfl) ?_ ?_ ?_
            rotate_left; rotate_left
            · intro w' hS; go_simp; with_reducible rfl
            · simp only [Act.put, List.setIfInBounds_toArray, List.set_cons_zero, List.set_cons_succ]; rfl
            refine seq_take (v := ?_) (a' := ?_) (some 23) rfl rfl (by rfl) ?_ ?_ ?_
            rotate_left; rotate_left
            · intro w' hS; go_simp; with_reducible rfl
            · simp only [Act.put, List.setIfInBounds_toArray, List.set_cons_zero, List.set_cons_succ]; rfl
            refine seq_take (v := ?_) (a' := ?_) (some 24) rfl rfl (by rfl) ?_ ?_ ?_
            rotate_left; rotate_left
            · intro w' hS; go_simp; with_reducible rfl
            · simp only [Act.put, List.setIfInBounds_toArray, List.set_cons_zero, List.set_cons_succ]; rfl
            refine seq_take (v := ?_) (a' := ?_) (some 25) rfl rfl (by rfl) ?_ ?_ ?_
            rotate_left; rotate_left
            · intro w' hS; go_simp; with_reducible rfl
            · simp only [Act.put, List.setIfInBounds_toArray, List.set_cons_zero, List.set_cons_succ]; rfl
            refine seq_take (v := ?_) (a' := ?_) (some 26) rfl rfl (by rfl) ?_ ?_ ?_
            rotate_left; rotate_left
            · intro w' hS; have p1 := Q1.out.below hS; have p2 := Q2.out.below hS; have a0 := p1.c0; have a1 := p1.c1; have a2 := p1.c2; have a3 := p1.c3; have a4 := p1.c4; have a5 := p1.c5; have a6 := p1.c6; have a7 := p1.c7; have b0 := p2.c0; have b1 := p2.c1; have b2 := p2.c2; have b3 := p2.c3; have b4 := p2.c4; have b5 := p2.c5; have b6 := p2.c6; have b7 := p2.c7; simp only at a0 a1 a2 a3 a4 a5 a6 a7 b0 b1 b2 b3 b4 b5 b6 b7; go_simp; with_reducible rfl
            · simp only [Act.put, List.setIfInBounds_toArray, List.set_cons_zero, List.set_cons_succ]; rfl
            refine seq_take (v := ?_) (a' := ?_) (some 27) rfl rfl (by rfl) ?_ ?_ ?_
            rotate_left; rotate_left
            · intro w' hS; go_simp; with_reducible rfl
            · simp only [Act.put, List.setIfInBounds_toArray, List.set_cons_zero, List.set_cons_succ]; rfl
            refine seq_take (v := ?_) (a' := ?_) (some 28) rfl rfl (by rfl) ?_ ?_ ?_
            rotate_left; rotate_left
            · intro w' hS; go_simp; with_reducible rfl
            · simp only [Act.put, List.setIfInBounds_toArray, List.set_cons_zero, List.set_cons_succ]; rfl
            refine seq_take (v := ?_) (a' := ?_) (some 29) rfl rfl (by rfl) ?_ ?_ ?_
            rotate_left; rotate_left
            · intro w' hS; go_simp; with_reducible rfl
            · simp only [Act.put, List.setIfInBounds_toArray, List.set_cons_zero, List.set_cons_succ]; rfl
            refine seq_take (v := ?_) (a' := ?_) (some 30) rfl rfl (by rfl) ?_ ?_ ?_
            rotate_left; rotate_left
            · intro w' hS; go_simp; with_reducible rfl
            · simp only [Act.put, List.setIfInBounds_toArray, List.set_cons_zero, List.set_cons_succ]; rfl
            refine seq_take (v := ?_) (a' := ?_) (some 31) rfl rfl (by rfl) ?_ ?_ ?_
            rotate_left; rotate_left
            · intro w' hS; have p1 := Q1.out.below hS; have p2 := Q2.out.below hS; have a0 := p1.c0; have a1 := p1.c1; have a2 := p1.c2; have a3 := p1.c3; have a4 := p1.c4; have a5 := p1.c5; have a6 := p1.c6; have a7 := p1.c7; have b0 := p2.c0; have b1 := p2.c1; have b2 := p2.c2; have b3 := p2.c3; have b4 := p2.c4; have b5 := p2.c5; have b6 := p2.c6; have b7 := p2.c7; simp only at a0 a1 a2 a3 a4 a5 a6 a7 b0 b1 b2 b3 b4 b5 b6 b7; go_simp; with_reducible rfl
            · simp only [Act.put, List.setIfInBounds_toArray, List.set_cons_zero, List.set_cons_succ]; rfl
            refine seq_callV (args := ?_) Try.func58 (by kernel_rfl) rfl (some 32) rfl rfl (by rfl) rfl rfl ?_ ?_
            rotate_left
            · simp only [List.map_toArray, List.map_cons, List.map_nil]; go_simp; rfl
            with_reducible refine (HC1.out _).mono ?_
            rintro e w' ⟨rfl, hb⟩
            refine ⟨_, rfl, bl_next (by repeat (first | with_reducible exact hB | refine Below.alloc ?_ (by have := hB.size; simp; omega) _ | refine bl_dN ?_ _ | refine Below.drew ?_ | refine Below.setCell ?_ (by have := hB.size; simp; omega) _)) hb, ?_⟩
            have hB := bl_next (by repeat (first | with_reducible exact hB | refine Below.alloc ?_ (by have := hB.size; simp; omega) _ | refine bl_dN ?_ _ | refine Below.drew ?_ | refine Below.setCell ?_ (by have := hB.size; simp; omega) _)) hb; clear hb
            simp only [Act.put, List.setIfInBounds_toArray, List.set_cons_zero, List.set_cons_succ]
            refine seq_take (v := ?_) (a' := ?_) (some 33) rfl rfl (by rfl) ?_ ?_ ?_
            rotate_left; rotate_left
            · intro w' hS; go_simp; with_reducible rfl
            · simp only [Act.put, List.setIfInBounds_toArray, List.set_cons_zero, List.set_cons_succ]; rfl
            refine seq_take (v := ?_) (a' := ?_) (some 34) rfl rfl (by rfl) ?_ ?_ ?_
            rotate_left; rotate_left
            · intro w' hS; go_simp; with_reducible rfl
            · simp only [Act.put, List.setIfInBounds_toArray, List.set_cons_zero, List.set_cons_succ]; rfl
            refine seq_done ?_
            go_upto_region 6 with fail
            clear HC1 HC2
            have HSV := HSW
            have HSW := Lib.hid (HSV.out.read hB); have Q1 := Lib.hid (Q1.out.below hB); have Q2 := Lib.hid (Q2.out.below hB)
            clear hB HSV
            obtain ⟨V2, rfl⟩ : ∃ V2 : World, V2 = w' := ⟨_, rfl⟩
            have hB := Below.refl V2.heap.size V2
            have hB := hB.drew
            refine region_seqM (fun w' => Below V2.heap.size V2 w') 15 [(0, 1), (1, 1), (2, 2), (3, 2), (4, 2), (5, 1), (6, 1), (7, 1), (8, 1), (9, 1), (10, 1), (11, 1), (12, 1), (13, 1), (14, 1), (15, 0), (16, 2), (17, 3)] (by kernel_rfl) (by kernel_rfl) (fun _ _ _ _ h => h) hB ?_
            try generalize World.drew _ = wS at hB ⊢
            refine sm_take (v := ?_) (a' := ?_) (some 37) rfl rfl (by rfl) ?_ ?_ ?_
            rotate_left; rotate_left
            · intro w' hS; go_simp; with_reducible rfl
            · simp only [Act.put, List.setIfInBounds_toArray, List.set_cons_zero, List.set_cons_succ]; rfl
            refine sm_take (v := ?_) (a' := ?_) (some 38) rfl rfl (by rfl) ?_ ?_ ?_
            rotate_left; rotate_left
            · intro w' hS; go_simp; with_reducible rfl
            · simp only [Act.put, List.setIfInBounds_toArray, List.set_cons_zero, List.set_cons_succ]; rfl
            refine sm_free (v := ?_) (a' := ?_) (some 39) rfl rfl (by rfl) ?_ ?_ ?_
            rotate_left; rotate_left
            · intro w'; go_simp; with_reducible rfl
            · simp only [Act.put, List.setIfInBounds_toArray, List.set_cons_zero, List.set_cons_succ]; rfl
            refine sm_free (v := ?_) (a' := ?_) (some 40) rfl rfl (by rfl) ?_ ?_ ?_
            rotate_left; rotate_left
            · intro w'; go_simp; with_reducible rfl
            · simp only [Act.put, List.setIfInBounds_toArray, List.set_cons_zero, List.set_cons_succ]; rfl
            refine sm_free (v := ?_) (a' := ?_) (some 41) rfl rfl (by rfl) ?_ ?_ ?_
            rotate_left; rotate_left
            · intro w'; go_simp; with_reducible rfl
            · simp only [Act.put, List.setIfInBounds_toArray, List.set_cons_zero, List.set_cons_succ]; rfl
            refine sm_take (v := ?_) (a' := ?_) (some 42) rfl rfl (by rfl) ?_ ?_ ?_
            rotate_left; rotate_left
            · intro w' hS; go_simp; with_reducible rfl
            · simp only [Act.put, List.setIfInBounds_toArray, List.set_cons_zero, List.set_cons_succ]; rfl
            refine sm_take (v := ?_) (a' := ?_) (some 43) rfl rfl (by rfl) ?_ ?_ ?_
            rotate_left; rotate_left
            · intro w' hS; go_simp; with_reducible rfl
            · simp only [Act.put, List.setIfInBounds_toArray, List.set_cons_zero, List.set_cons_succ]; rfl
            refine sm_take (v := ?_) (a' := ?_) (some 44) rfl rfl (by rfl) ?_ ?_ ?_
            rotate_left; rotate_left
            · intro w' hS; go_simp; with_reducible rfl
            · simp only [Act.put, List.setIfInBounds_toArray, List.set_cons_zero, List.set_cons_succ]; rfl
            refine sm_take (v := ?_) (a' := ?_) (some 45) rfl rfl (by rfl) ?_ ?_ ?_
            rotate_left; rotate_left
            · intro w' hS; go_simp; with_reducible rfl
            · simp only [Act.put, List.setIfInBounds_toArray, List.set_cons_zero, List.set_cons_succ]; rfl
            refine sm_take (v := ?_) (a' := ?_) (some 46) rfl rfl (by rfl) ?_ ?_ ?_
            rotate_left; rotate_left
            · intro w' hS; have p1 := Q1.out.below hS; have p2 := Q2.out.below hS; have a0 := p1.c0; have a1 := p1.c1; have a2 := p1.c2; have a3 := p1.c3; have a4 := p1.c4; have a5 := p1.c5; have a6 := p1.c6; have a7 := p1.c7; have b0 := p2.c0; have b1 := p2.c1; have b2 := p2.c2; have b3 := p2.c3; have b4 := p2.c4; have b5 := p2.c5; have b6 := p2.c6; have b7 := p2.c7; simp only at a0 a1 a2 a3 a4 a5 a6 a7 b0 b1 b2 b3 b4 b5 b6 b7; go_simp; with_reducible rfl
            · simp only [Act.put, List.setIfInBounds_toArray, List.set_cons_zero, List.set_cons_succ]; rfl
            refine sm_take (v := ?_) (a' := ?_) (some 47) rfl rfl (by rfl) ?_ ?_ ?_
            rotate_left; rotate_left
            · intro w' hS; go_simp; with_reducible rfl
            · simp only [Act.put, List.setIfInBounds_toArray, List.set_cons_zero, List.set_cons_succ]; rfl
            refine sm_take (v := ?_) (a' := ?_) (some 48) rfl rfl (by rfl) ?_ ?_ ?_
            rotate_left; rotate_left
            · intro w' hS; go_simp; with_reducible rfl
            · simp only [Act.put, List.setIfInBounds_toArray, List.set_cons_zero, List.set_cons_succ]; rfl
            refine sm_take (v := ?_) (a' := ?_) (some 49) rfl rfl (by rfl) ?_ ?_ ?_
            rotate_left; rotate_left
            · intro w' hS; go_simp; with_reducible rfl
            · simp only [Act.put, List.setIfInBounds_toArray, List.set_cons_zero, List.set_cons_succ]; rfl
            refine sm_take (v := ?_) (a' := ?_) (some 50) rfl rfl (by rfl) ?_ ?_ ?_
            rotate_left; rotate_left
            · intro w' hS; have p1 := Q1.out.below hS; have p2 := Q2.out.below hS; have a0 := p1.c0; have a1 := p1.c1; have a2 := p1.c2; have a3 := p1.c3; have a4 := p1.c4; have a5 := p1.c5; have a6 := p1.c6; have a7 := p1.c7; have b0 := p2.c0; have b1 := p2.c1; have b2 := p2.c2; have b3 := p2.c3; have b4 := p2.c4; have b5 := p2.c5; have b6 := p2.c6; have b7 := p2.c7; simp only at a0 a1 a2 a3 a4 a5 a6 a7 b0 b1 b2 b3 b4 b5 b6 b7; go_simp; with_reducible rfl
            · simp only [Act.put, List.setIfInBounds_toArray, List.set_cons_zero, List.set_cons_succ]; rfl
            refine sm_take (v := ?_) (a' := ?_) (some 51) rfl rfl (by rfl) ?_ ?_ ?_
            rotate_left; rotate_left
            · intro w' hS; go_simp; with_reducible rfl
            · simp only [Act.put, List.setIfInBounds_toArray, List.set_cons_zero, List.set_cons_succ]; rfl
            refine sm_store none rfl rfl (by rfl) ?_
            apply Exists.intro; apply And.intro
            · have SZ := HSW.out.read hB; have zx := SZ.at HLX.out; have zy := SZ.at HLY.out; have z0 := zx.c0; have z1 := zx.c1; have z2 := zx.c2; have z3 := zx.c3; have z4 := zx.c4; have z5 := zx.c5; have z6 := zx.c6; have z7 := zx.c7; have y0 := zy.c0; have y1 := zy.c1; have y2 := zy.c2; have y3 := zy.c3; have y4 := zy.c4; have y5 := zy.c5; have y6 := zy.c6; have y7 := zy.c7; have zf := SZ.froz; clear SZ zx zy; go_simp; first | exact ⟨rfl, rfl⟩ | rfl
            apply Exists.intro; apply And.intro
            · simp only [Act.put, List.setIfInBounds_toArray, List.set_cons_zero, List.set_cons_succ]; rfl
            apply And.intro
            · exact .inl rfl
            refine sm_free (v := ?_) (a' := ?_) (some 52) rfl rfl (by rfl) ?_ ?_ ?_
            rotate_left; rotate_left
            · intro w'; go_simp; with_reducible rfl
            · simp only [Act.put, List.setIfInBounds_toArray, List.set_cons_zero, List.set_cons_succ]; rfl
            refine sm_after none rfl rfl (by rfl) ?_
            apply Exists.intro; apply And.intro
            · have SZ := HSW.out.read hB; have zx := SZ.at HLX.out; have zy := SZ.at HLY.out; have z0 := zx.c0; have z1 := zx.c1; have z2 := zx.c2; have z3 := zx.c3; have z4 := zx.c4; have z5 := zx.c5; have z6 := zx.c6; have z7 := zx.c7; have y0 := zy.c0; have y1 := zy.c1; have y2 := zy.c2; have y3 := zy.c3; have y4 := zy.c4; have y5 := zy.c5; have y6 := zy.c6; have y7 := zy.c7; have zf := SZ.froz; clear SZ zx zy; go_simp; first | exact ⟨rfl, rfl⟩ | rfl
            apply Exists.intro; apply And.intro
            · simp only [Act.put, List.setIfInBounds_toArray, List.set_cons_zero, List.set_cons_succ]; rfl
            refine sm_done ?_
            refine name_exit ?_
            intro U hU
            have HSU := Lib.hid (show SW w0 B g N cap (swF dk j (j - 1)) U by
              rw [hU]
              have q := (HSW.out.read hB).swap HLX.out HLY.out
              rw [HX.out, HY.out] at q
              exact q)
            rw [HSTEP.out] at HSU
            clear hU hB hk1 hk2 hk3 hk7
            go_wp2_with fail
            go_roundw
            case rel =>
              refine ⟨j - 1, ?_, by omega, by omega, Lib.hid ⟨fun y h1 h2 => ?_, HSU.out⟩⟩
              · rw [show ((j - 1 : Nat) : Int) = (j : Int) - 1 by omega]
              · by_cases e : y = j - 1
                · rw [e]; exact HLT.out
                · exact HJ.out.1 y (by omega) h2
            case measure => simp [intOf]; omega
          · have HLT := Lib.hid (show ltB (kX (d1 i)) (kX (d1 (j - 1))) = false by rw [← HL2.out]; exact decide_eq_false hcn)
            go_upto_region 4 with fail
            have hB := hB.drew
            refine region_seq (fun w' => Below V.heap.size V w') [(0, true), (1, true), (2, true), (3, true), (4, true), (5, true), (6, true), (7, true), (8, true), (9, true), (10, true), (11, true), (12, true), (13, true), (14, false), (15, true), (16, true)] (by kernel_rfl) (by kernel_rfl) (fun _ _ _ _ h => h) hB ?_
            try generalize World.drew _ = wS at hB ⊢
            refine seq_take (v := ?_) (a' := ?_) (some 18) rfl rfl (by rfl) ?_ ?_ ?_
            rotate_left; rotate_left
            · intro w' hS; go_simp; with_reducible rfl
            · simp only [Act.put, List.setIfInBounds_toArray, List.set_cons_zero, List.set_cons_succ]; rfl
            refine seq_take (v := ?_) (a' := ?_) (some 19) rfl rfl (by rfl) ?_ ?_ ?_
            rotate_left; rotate_left
            · intro w' hS; go_simp; with_reducible rfl
            · simp only [Act.put, List.setIfInBounds_toArray, List.set_cons_zero, List.set_cons_succ]; rfl
            refine seq_take (v := ?_) (a' := ?_) (some 20) rfl rfl (by rfl) ?_ ?_ ?_
            rotate_left; rotate_left
            · intro w' hS; go_simp; with_reducible rfl
            · simp only [Act.put, List.setIfInBounds_toArray, List.set_cons_zero, List.set_cons_succ]; rfl
            refine seq_take (v := ?_) (a' := ?_) (some 21) rfl rfl (by rfl) ?_ ?_ ?_
            rotate_left; rotate_left
            · intro w' hS; go_simp; with_reducible rfl
            · simp only [Act.put, List.setIfInBounds_toArray, List.set_cons_zero, List.set_cons_succ]; rfl
            refine seq_take (v := ?_) (a' := ?_) (some 22) rfl rfl (by rfl) ?_ ?_ ?_
            rotate_left; rotate_left
            · intro w' hS; go_simp; with_reducible rfl
            · simp only [Act.put, List.setIfInBounds_toArray, List.set_cons_zero, List.set_cons_succ]; rfl
            refine seq_take (v := ?_) (a' := ?_) (some 23) rfl rfl (by rfl) ?_ ?_ ?_
            rotate_left; rotate_left
            · intro w' hS; go_simp; with_reducible rfl
            · simp only [Act.put, List.setIfInBounds_toArray, List.set_cons_zero, List.set_cons_succ]; rfl
            refine seq_take (v := ?_) (a' := ?_) (some 24) rfl rfl (by rfl) ?_ ?_ ?_
            rotate_left; rotate_left
            · intro w' hS; go_simp; with_reducible rfl
            · simp only [Act.put, List.setIfInBounds_toArray, List.set_cons_zero, List.set_cons_succ]; rfl
            refine seq_take (v := ?_) (a' := ?_) (some 25) rfl rfl (by rfl) ?_ ?_ ?_
            rotate_left; rotate_left
            · intro w' hS; go_simp; with_reducible rfl
            · simp only [Act.put, List.setIfInBounds_toArray, List.set_cons_zero, List.set_cons_succ]; rfl
            refine seq_take (v := ?_) (a' := ?_) (some 26) rfl rfl (by rfl) ?_ ?_ ?_
            rotate_left; rotate_left
            · intro w' hS; have p1 := Q1.out.below hS; have p2 := Q2.out.below hS; have a0 := p1.c0; have a1 := p1.c1; have a2 := p1.c2; have a3 := p1.c3; have a4 := p1.c4; have a5 := p1.c5; have a6 := p1.c6; have a7 := p1.c7; have b0 := p2.c0; have b1 := p2.c1; have b2 := p2.c2; have b3 := p2.c3; have b4 := p2.c4; have b5 := p2.c5; have b6 := p2.c6; have b7 := p2.c7; simp only at a0 a1 a2 a3 a4 a5 a6 a7 b0 b1 b2 b3 b4 b5 b6 b7; go_simp; with_reducible rfl
            · simp only [Act.put, List.setIfInBounds_toArray, List.set_cons_zero, List.set_cons_succ]; rfl
            refine seq_take (v := ?_) (a' := ?_) (some 27) rfl rfl (by rfl) ?_ ?_ ?_
            rotate_left; rotate_left
            · intro w' hS; go_simp; with_reducible rfl
            · simp only [Act.put, List.setIfInBounds_toArray, List.set_cons_zero, List.set_cons_succ]; rfl
            refine seq_take (v := ?_) (a' := ?_) (some 28) rfl rfl (by rfl) ?_ ?_ ?_
            rotate_left; rotate_left
            · intro w' hS; go_simp; with_reducible rfl
            · simp only [Act.put, List.setIfInBounds_toArray, List.set_cons_zero, List.set_cons_succ]; rfl
            refine seq_take (v := ?_) (a' := ?_) (some 29) rfl rfl (by rfl) ?_ ?_ ?_
            rotate_left; rotate_left
            · intro w' hS; go_simp; with_reducible rfl
            · simp only [Act.put, List.setIfInBounds_toArray, List.set_cons_zero, List.set_cons_succ]; rfl
            refine seq_take (v := ?_) (a' := ?_) (some 30) rfl rfl (by rfl) ?_ ?_ ?_
            rotate_left; rotate_left
            · intro w' hS; go_simp; with_reducible rfl
            · simp only [Act.put, List.setIfInBounds_toArray, List.set_cons_zero, List.set_cons_succ]; rfl
            refine seq_take (v := ?_) (a' := ?_) (some 31) rfl rfl (by rfl) ?_ ?_ ?_
            rotate_left; rotate_left
            · intro w' hS; have p1 := Q1.out.below hS; have p2 := Q2.out.below hS; have a0 := p1.c0; have a1 := p1.c1; have a2 := p1.c2; have a3 := p1.c3; have a4 := p1.c4; have a5 := p1.c5; have a6 := p1.c6; have a7 := p1.c7; have b0 := p2.c0; have b1 := p2.c1; have b2 := p2.c2; have b3 := p2.c3; have b4 := p2.c4; have b5 := p2.c5; have b6 := p2.c6; have b7 := p2.c7; simp only at a0 a1 a2 a3 a4 a5 a6 a7 b0 b1 b2 b3 b4 b5 b6 b7; go_simp; with_reducible rfl
            · simp only [Act.put, List.setIfInBounds_toArray, List.set_cons_zero, List.set_cons_succ]; rfl
            refine seq_callV (args := ?_) Try.func58 (by kernel_rfl) rfl (some 32) rfl rfl (by rfl) rfl rfl ?_ ?_
            rotate_left
            · simp only [List.map_toArray, List.map_cons, List.map_nil]; go_simp; rfl
            with_reducible refine (HC1.out _).mono ?_
            rintro e w' ⟨rfl, hb⟩
            refine ⟨_, rfl, bl_next (by repeat (first | with_reducible exact hB | refine Below.alloc ?_ (by have := hB.size; simp; omega) _ | refine bl_dN ?_ _ | refine Below.drew ?_ | refine Below.setCell ?_ (by have := hB.size; simp; omega) _)) hb, ?_⟩
            have hB := bl_next (by repeat (first | with_reducible exact hB | refine Below.alloc ?_ (by have := hB.size; simp; omega) _ | refine bl_dN ?_ _ | refine Below.drew ?_ | refine Below.setCell ?_ (by have := hB.size; simp; omega) _)) hb; clear hb
            simp only [Act.put, List.setIfInBounds_toArray, List.set_cons_zero, List.set_cons_succ]
            refine seq_take (v := ?_) (a' := ?_) (some 33) rfl rfl (by rfl) ?_ ?_ ?_
            rotate_left; rotate_left
            · intro w' hS; go_simp; with_reducible rfl
            · simp only [Act.put, List.setIfInBounds_toArray, List.set_cons_zero, List.set_cons_succ]; rfl
            refine seq_take (v := ?_) (a' := ?_) (some 34) rfl rfl (by rfl) ?_ ?_ ?_
            rotate_left; rotate_left
            · intro w' hS; go_simp; with_reducible rfl
            · simp only [Act.put, List.setIfInBounds_toArray, List.set_cons_zero, List.set_cons_succ]; rfl
            refine seq_done ?_
            have HSV := Lib.hid (HSW.out.read hB)
            rw [← HDK.out] at HSV
            go_wp2_with fail
            go_roundw
            case rel =>
              refine ⟨i + 1, _, by simp, by omega, by omega, Lib.hid (OUT.out _ HSV.out (fun y h1 h2 => ?_))⟩
              rcases Nat.lt_or_ge y (j - 1) with z | z
              · exact toB.le_tr (HD.out.2.1 y (j - 1) h1 z (by omega)) HLT.out
              · obtain rfl : y = j - 1 := by omega
                exact HLT.out
            case measure => simp [intOf]; omega
        · obtain rfl : j = a := by omega
          have hjI : ¬ (j : Int) < j := by omega
          have hk6 : decide (j < j) = false := decide_eq_false (by omega)
          have hB := Below.refl V.heap.size V
          go_upto_region 4 with fail
          have hB := hB.drew
          refine region_seq (fun w' => Below V.heap.size V w') [(0, true), (1, true), (2, true), (3, true), (4, true), (5, true), (6, true), (7, true), (8, true), (9, true), (10, true), (11, true), (12, true), (13, true), (14, false), (15, true), (16, true)] (by kernel_rfl) (by kernel_rfl) (fun _ _ _ _ h => h) hB ?_
          try generalize World.drew _ = wS at hB ⊢
          refine seq_take (v := ?_) (a' := ?_) (some 18) rfl rfl (by rfl) ?_ ?_ ?_
          rotate_left; rotate_left
          · intro w' hS; go_simp; with_reducible rfl
          · simp only [Act.put, List.setIfInBounds_toArray, List.set_cons_zero, List.set_cons_succ]; rfl
          refine seq_take (v := ?_) (a' := ?_) (some 19) rfl rfl (by rfl) ?_ ?_ ?_
          rotate_left; rotate_left
          · intro w' hS; go_simp; with_reducible rfl
          · simp only [Act.put, List.setIfInBounds_toArray, List.set_cons_zero, List.set_cons_succ]; rfl
          refine seq_take (v := ?_) (a' := ?_) (some 20) rfl rfl (by rfl) ?_ ?_ ?_
          rotate_left; rotate_left
          · intro w' hS; go_simp; with_reducible rfl
          · simp only [Act.put, List.setIfInBounds_toArray, List.set_cons_zero, List.set_cons_succ]; rfl
          refine seq_take (v := ?_) (a' := ?_) (some 21) rfl rfl (by rfl) ?_ ?_ ?_
          rotate_left; rotate_left
          · intro w' hS; go_simp; with_reducible rfl
          · simp only [Act.put, List.setIfInBounds_toArray, List.set_cons_zero, List.set_cons_succ]; rfl
          refine seq_skip (a' := ?_) (some 22) rfl rfl (by rfl) ?_ ?_
          rotate_left
          · simp only [Act.put, List.setIfInBounds_toArray, List.set_cons_zero, List.set_cons_succ]; rfl
          refine seq_skip (a' := ?_) (some 23) rfl rfl (by rfl) ?_ ?_
          rotate_left
          · simp only [Act.put, List.setIfInBounds_toArray, List.set_cons_zero, List.set_cons_succ]; rfl
          refine seq_skip (a' := ?_) (some 24) rfl rfl (by rfl) ?_ ?_
          rotate_left
          · simp only [Act.put, List.setIfInBounds_toArray, List.set_cons_zero, List.set_cons_succ]; rfl
          refine seq_skip (a' := ?_) (some 25) rfl rfl (by rfl) ?_ ?_
          rotate_left
          · simp only [Act.put, List.setIfInBounds_toArray, List.set_cons_zero, List.set_cons_succ]; rfl
          refine seq_skip (a' := ?_) (some 26) rfl rfl (by rfl) ?_ ?_
          rotate_left
          · simp only [Act.put, List.setIfInBounds_toArray, List.set_cons_zero, List.set_cons_succ]; rfl
          refine seq_skip (a' := ?_) (some 27) rfl rfl (by rfl) ?_ ?_
          rotate_left
          · simp only [Act.put, List.setIfInBounds_toArray, List.set_cons_zero, List.set_cons_succ]; rfl
          refine seq_skip (a' := ?_) (some 28) rfl rfl (by rfl) ?_ ?_
          rotate_left
          · simp only [Act.put, List.setIfInBounds_toArray, List.set_cons_zero, List.set_cons_succ]; rfl
          refine seq_skip (a' := ?_) (some 29) rfl rfl (by rfl) ?_ ?_
          rotate_left
          · simp only [Act.put, List.setIfInBounds_toArray, List.set_cons_zero, List.set_cons_succ]; rfl
          refine seq_skip (a' := ?_) (some 30) rfl rfl (by rfl) ?_ ?_
          rotate_left
          · simp only [Act.put, List.setIfInBounds_toArray, List.set_cons_zero, List.set_cons_succ]; rfl
          refine seq_skip (a' := ?_) (some 31) rfl rfl (by rfl) ?_ ?_
          rotate_left
          · simp only [Act.put, List.setIfInBounds_toArray, List.set_cons_zero, List.set_cons_succ]; rfl
          refine seq_skip1 (a' := ?_) (some 32) rfl rfl (by rfl) ?_ hB ?_
          rotate_left
          · simp only [Act.put, List.setIfInBounds_toArray, List.set_cons_zero, List.set_cons_succ]; rfl
          refine seq_skip (a' := ?_) (some 33) rfl rfl (by rfl) ?_ ?_
          rotate_left
          · simp only [Act.put, List.setIfInBounds_toArray, List.set_cons_zero, List.set_cons_succ]; rfl
          refine seq_take (v := ?_) (a' := ?_) (some 34) rfl rfl (by rfl) ?_ ?_ ?_
          rotate_left; rotate_left
          · intro w' hS; go_simp; with_reducible rfl
          · simp only [Act.put, List.setIfInBounds_toArray, List.set_cons_zero, List.set_cons_succ]; rfl
          refine seq_done ?_
          have HSV := Lib.hid (HSW.out.read hB)
          go_wp2_with fail
          go_roundw
          case rel => exact ⟨i + 1, _, by simp, by omega, by omega, Lib.hid (OUT.out _ HSV.out (fun y h1 h2 => by omega))⟩
          case measure => simp [intOf]; omega
    · go_wp2_with fail
      go_end0
      exact ⟨rfl, d1, HD.out.1, srt_sub HD.out.2.1 (Nat.le_refl _) (by omega), HD.out.2.2.1, HD.out.2.2.2⟩
end Go.Proofs.Ythhfcambdmdgfaa

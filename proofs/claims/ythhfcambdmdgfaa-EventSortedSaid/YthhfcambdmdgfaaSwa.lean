import Derived.Test.YthhfcambdmdgfaaSw
import Derived.IntWalk
namespace Go.Proofs.Ythhfcambdmdgfaa
open Go.RowKit Go.Maps Srt
set_option linter.unusedVariables false
set_option linter.unusedSimpArgs false
set_option maxRecDepth 100000 in
set_option maxHeartbeats 8000000 in
theorem swapR_calls {w0 W : World} {B g N cap : Nat} {d : Nat → OX} (h : SW w0 B g N cap d W) (hP : AllP N d) {a b m : Nat} (hab : a + m ≤ b) (hb : b + m ≤ N) (hN : N ≤ 1000000) (f : Value) :
    Calls Try.prog 127 #[.slice (some ⟨g, 0, none⟩) N cap, .int .i64 (a : Int), .int .i64 (b : Int), .int .i64 (m : Int), f] W fun e w' => e = .returned (.tuple #[]) ∧ SW w0 B g N cap (swR d a b m) w' := by
  have HSW0 := Lib.hid h; have HP := Lib.hid hP
  clear h hP
  go_enter Try.func127, Try.ntmps127
  go_wp2_with fail
  go_loopw [10] (fun i wr => ∃ k : Nat, i = .int .i64 (k : Int) ∧ k ≤ m ∧ Hid (SW w0 B g N cap (swR d a b k) wr)) (fun i _ => m - (intOf i).toNat)
  case atStart => exact ⟨0, rfl, Nat.zero_le _, Lib.hid (by rw [swR_zero]; exact HSW0.out)⟩
  case round =>
    obtain ⟨k, rfl, hk, HSW⟩ := hrel
    by_cases hkm : k < m
    · have hkI : (k : Int) < m := by omega
      obtain ⟨V, rfl⟩ : ∃ V : World, V = wr := ⟨_, rfl⟩
      have HLX := Lib.hid (show a + k < N by omega); have HLY := Lib.hid (show b + k < N by omega)
      have hPk := allP_swR HP.out (x := a) (y := b) (m := k) (by omega) (by omega)
      have HSTEP := Lib.hid (swR_succ d (a := a) (b := b) (n := k) (by omega))
      generalize swR d a b k = dk at HSW hPk HSTEP
      obtain ⟨_, ax, nx, cx, ex⟩ := hPk _ HLX.out
      obtain ⟨_, ay, ny, cy, ey⟩ := hPk _ HLY.out
      have Q1 := Lib.hid (HSW.out.at HLX.out); have Q2 := Lib.hid (HSW.out.at HLY.out)
      obtain ⟨⟨x, sx⟩, hx⟩ : ∃ p, dk (a + k) = p := ⟨_, rfl⟩
      obtain ⟨⟨y, sy⟩, hy⟩ : ∃ p, dk (b + k) = p := ⟨_, rfl⟩
      rw [hx] at Q1 ex; rw [hy] at Q2 ey
      simp only at ex ey
      subst ex; subst ey
      have HX := Lib.hid hx; have HY := Lib.hid hy
      have i1 : IntKind.i64.wrap ((a : Int) + k) = (a : Int) + k := IntWalk.i64_in _ (by omega)
      have i2 : IntKind.i64.wrap ((b : Int) + k) = (b : Int) + k := IntWalk.i64_in _ (by omega)
      have i3 : (a : Int) + k < N := by omega
      have i4 : (b : Int) + k < N := by omega
      have i5 : (0 : Int) ≤ (a : Int) + k := by omega
      have i6 : (0 : Int) ≤ (b : Int) + k := by omega
      have i7 : ((a : Int) + k).toNat = a + k := by omega
      have i8 : ((b : Int) + k).toNat = b + k := by omega
      clear hx hy hPk
      have hB := Below.refl V.heap.size V
      go_upto_region 3 with fail
      have hB := hB.drew
      refine region_seqM (fun w' => Below V.heap.size V w') 21 [(0, 1), (1, 1), (2, 1), (3, 1), (4, 2), (5, 2), (6, 2), (7, 2), (8, 1), (9, 1), (10, 1), (11, 1), (12, 1), (13, 1), (14, 1), (15, 1), (16, 1), (17, 1), (18, 1), (19, 1), (20, 1), (21, 0), (22, 2), (23, 3)] (by kernel_rfl) (by kernel_rfl) (fun _ _ _ _ h => h) hB ?_
      try generalize World.drew _ = wS at hB ⊢
      refine sm_take (v := ?_) (a' := ?_) (some 16) rfl rfl (by rfl) ?_ ?_ ?_
      rotate_left; rotate_left
      · intro w' hS; go_simp; with_reducible rfl
      · simp only [Act.put, List.setIfInBounds_toArray, List.set_cons_zero, List.set_cons_succ]; rfl
      refine sm_take (v := ?_) (a' := ?_) (some 17) rfl rfl (by rfl) ?_ ?_ ?_
      rotate_left; rotate_left
      · intro w' hS; go_simp; with_reducible rfl
      · simp only [Act.put, List.setIfInBounds_toArray, List.set_cons_zero, List.set_cons_succ]; rfl
      refine sm_take (v := ?_) (a' := ?_) (some 18) rfl rfl (by rfl) ?_ ?_ ?_
      rotate_left; rotate_left
      · intro w' hS; go_simp; with_reducible rfl
      · simp only [Act.put, List.setIfInBounds_toArray, List.set_cons_zero, List.set_cons_succ]; rfl
      refine sm_take (v := ?_) (a' := ?_) (some 19) rfl rfl (by rfl) ?_ ?_ ?_
      rotate_left; rotate_left
      · intro w' hS; go_simp; with_reducible rfl
      · simp only [Act.put, List.setIfInBounds_toArray, List.set_cons_zero, List.set_cons_succ]; rfl
      refine sm_free (v := ?_) (a' := ?_) (some 20) rfl rfl (by rfl) ?_ ?_ ?_
      rotate_left; rotate_left
      · intro w'; go_simp; with_reducible rfl
      · simp only [Act.put, List.setIfInBounds_toArray, List.set_cons_zero, List.set_cons_succ]; rfl
      refine sm_free (v := ?_) (a' := ?_) (some 21) rfl rfl (by rfl) ?_ ?_ ?_
      rotate_left; rotate_left
      · intro w'; go_simp; with_reducible rfl
      · simp only [Act.put, List.setIfInBounds_toArray, List.set_cons_zero, List.set_cons_succ]; rfl
      refine sm_free (v := ?_) (a' := ?_) (some 22) rfl rfl (by rfl) ?_ ?_ ?_
      rotate_left; rotate_left
      · intro w'; go_simp; with_reducible rfl
      · simp only [Act.put, List.setIfInBounds_toArray, List.set_cons_zero, List.set_cons_succ]; rfl
      refine sm_free (v := ?_) (a' := ?_) (some 23) rfl rfl (by rfl) ?_ ?_ ?_
      rotate_left; rotate_left
      · intro w'; go_simp; with_reducible rfl
      · simp only [Act.put, List.setIfInBounds_toArray, List.set_cons_zero, List.set_cons_succ]; rfl
      refine sm_take (v := ?_) (a' := ?_) (some 24) rfl rfl (by rfl) ?_ ?_ ?_
      rotate_left; rotate_left
      · intro w' hS; go_simp; with_reducible rfl
      · simp only [Act.put, List.setIfInBounds_toArray, List.set_cons_zero, List.set_cons_succ]; rfl
      refine sm_take (v := ?_) (a' := ?_) (some 25) rfl rfl (by rfl) ?_ ?_ ?_
      rotate_left; rotate_left
      · intro w' hS; go_simp; with_reducible rfl
      · simp only [Act.put, List.setIfInBounds_toArray, List.set_cons_zero, List.set_cons_succ]; rfl
      refine sm_take (v := ?_) (a' := ?_) (some 26) rfl rfl (by rfl) ?_ ?_ ?_
      rotate_left; rotate_left
      · intro w' hS; go_simp; with_reducible rfl
      · simp only [Act.put, List.setIfInBounds_toArray, List.set_cons_zero, List.set_cons_succ]; rfl
      refine sm_take (v := ?_) (a' := ?_) (some 27) rfl rfl (by rfl) ?_ ?_ ?_
      rotate_left; rotate_left
      · intro w' hS; go_simp; with_reducible rfl
      · simp only [Act.put, List.setIfInBounds_toArray, List.set_cons_zero, List.set_cons_succ]; rfl
      refine sm_take (v := ?_) (a' := ?_) (some 28) rfl rfl (by rfl) ?_ ?_ ?_
      rotate_left; rotate_left
      · intro w' hS; go_simp; with_reducible rfl
      · simp only [Act.put, List.setIfInBounds_toArray, List.set_cons_zero, List.set_cons_succ]; rfl
      refine sm_take (v := ?_) (a' := ?_) (some 29) rfl rfl (by rfl) ?_ ?_ ?_
      rotate_left; rotate_left
      · intro w' hS; have p1 := Q1.out.below hS; have p2 := Q2.out.below hS; have a0 := p1.c0; have a1 := p1.c1; have a2 := p1.c2; have a3 := p1.c3; have a4 := p1.c4; have a5 := p1.c5; have a6 := p1.c6; have a7 := p1.c7; have b0 := p2.c0; have b1 := p2.c1; have b2 := p2.c2; have b3 := p2.c3; have b4 := p2.c4; have b5 := p2.c5; have b6 := p2.c6; have b7 := p2.c7; simp only at a0 a1 a2 a3 a4 a5 a6 a7 b0 b1 b2 b3 b4 b5 b6 b7; go_simp; with_reducible rfl
      · simp only [Act.put, List.setIfInBounds_toArray, List.set_cons_zero, List.set_cons_succ]; rfl
      refine sm_take (v := ?_) (a' := ?_) (some 30) rfl rfl (by rfl) ?_ ?_ ?_
      rotate_left; rotate_left
      · intro w' hS; go_simp; with_reducible rfl
      · simp only [Act.put, List.setIfInBounds_toArray, List.set_cons_zero, List.set_cons_succ]; rfl
      refine sm_take (v := ?_) (a' := ?_) (some 31) rfl rfl (by rfl) ?_ ?_ ?_
      rotate_left; rotate_left
      · intro w' hS; go_simp; with_reducible rfl
      · simp only [Act.put, List.setIfInBounds_toArray, List.set_cons_zero, List.set_cons_succ]; rfl
      refine sm_take (v := ?_) (a' := ?_) (some 32) rfl rfl (by rfl) ?_ ?_ ?_
      rotate_left; rotate_left
      · intro w' hS; go_simp; with_reducible rfl
      · simp only [Act.put, List.setIfInBounds_toArray, List.set_cons_zero, List.set_cons_succ]; rfl
      refine sm_take (v := ?_) (a' := ?_) (some 33) rfl rfl (by rfl) ?_ ?_ ?_
      rotate_left; rotate_left
      · intro w' hS; go_simp; with_reducible rfl
      · simp only [Act.put, List.setIfInBounds_toArray, List.set_cons_zero, List.set_cons_succ]; rfl
      refine sm_take (v := ?_) (a' := ?_) (some 34) rfl rfl (by rfl) ?_ ?_ ?_
      rotate_left; rotate_left
      · intro w' hS; go_simp; with_reducible rfl
      · simp only [Act.put, List.setIfInBounds_toArray, List.set_cons_zero, List.set_cons_succ]; rfl
      refine sm_take (v := ?_) (a' := ?_) (some 35) rfl rfl (by rfl) ?_ ?_ ?_
      rotate_left; rotate_left
      · intro w' hS; have p1 := Q1.out.below hS; have p2 := Q2.out.below hS; have a0 := p1.c0; have a1 := p1.c1; have a2 := p1.c2; have a3 := p1.c3; have a4 := p1.c4; have a5 := p1.c5; have a6 := p1.c6; have a7 := p1.c7; have b0 := p2.c0; have b1 := p2.c1; have b2 := p2.c2; have b3 := p2.c3; have b4 := p2.c4; have b5 := p2.c5; have b6 := p2.c6; have b7 := p2.c7; simp only at a0 a1 a2 a3 a4 a5 a6 a7 b0 b1 b2 b3 b4 b5 b6 b7; go_simp; with_reducible rfl
      · simp only [Act.put, List.setIfInBounds_toArray, List.set_cons_zero, List.set_cons_succ]; rfl
      refine sm_take (v := ?_) (a' := ?_) (some 36) rfl rfl (by rfl) ?_ ?_ ?_
      rotate_left; rotate_left
      · intro w' hS; go_simp; with_reducible rfl
      · simp only [Act.put, List.setIfInBounds_toArray, List.set_cons_zero, List.set_cons_succ]; rfl
      refine sm_store none rfl rfl (by rfl) ?_
      apply Exists.intro; apply And.intro
      · have SZ := HSW.out.read hB; have zx := SZ.at HLX.out; have zy := SZ.at HLY.out; have z0 := zx.c0; have z1 := zx.c1; have z2 := zx.c2; have z3 := zx.c3; have z4 := zx.c4; have z5 := zx.c5; have z6 := zx.c6; have z7 := zx.c7; have y0 := zy.c0; have y1 := zy.c1; have y2 := zy.c2; have y3 := zy.c3; have y4 := zy.c4; have y5 := zy.c5; have y6 := zy.c6; have y7 := zy.c7; have zf := SZ.froz; clear SZ zx zy; go_simp; first | exact ⟨rfl, rfl⟩ | rfl
      apply Exists.intro; apply And.intro
      · simp only [Act.put, List.setIfInBounds_toArray, List.set_cons_zero, List.set_cons_succ]; rfl
      apply And.intro
      · exact .inl rfl
      refine sm_free (v := ?_) (a' := ?_) (some 37) rfl rfl (by rfl) ?_ ?_ ?_
      rotate_left; rotate_left
      · intro w'; go_simp; with_reducible rfl
      · simp only [Act.put, List.setIfInBounds_toArray, List.set_cons_zero, List.set_cons_succ]; rfl
      refine sm_after none rfl rfl (by rfl) ?_
      apply Exists.intro; apply And.intro
      · have SZ := HSW.out.read hB; have zx := SZ.at HLX.out; have zy := SZ.at HLY.out; have z0 := zx.c0; have z1 := zx.c1; have z2 := zx.c2; have z3 := zx.c3; have z4 := zx.c4; have z5 := zx.c5; have z6 := zx.c6; have z7 := zx.c7; have y0 := zy.c0; have y1 := zy.c1; have y2 := zy.c2; have y3 := zy.c3; have y4 := zy.c4; have y5 := zy.c5; have y6 := zy.c6; have y7 := zy.c7; have zf := SZ.froz; clear SZ zx zy; go_simp; first | exact ⟨rfl, rfl⟩ | rfl
      apply Exists.intro; apply And.intro
      · simp only [Act.put, List.setIfInBounds_toArray, List.set_cons_zero, List.set_cons_succ]; rfl
      refine sm_done ?_
      refine name_exit ?_
      intro U hU
      have HSU := Lib.hid (show SW w0 B g N cap (swF dk (a + k) (b + k)) U by
        rw [hU]
        have q := (HSW.out.read hB).swap HLX.out HLY.out
        rw [HX.out, HY.out] at q
        exact q)
      rw [HSTEP.out] at HSU
      clear hU hB i1 i2 i3 i4 i5 i6 i7 i8
      go_wp2_with fail
      go_roundw
      case rel => exact ⟨k + 1, by simp, by omega, HSU⟩
      case measure => simp [intOf]; omega
    · obtain rfl : k = m := by omega
      go_wp2_with fail
      go_end0
      exact ⟨rfl, HSW.out⟩
end Go.Proofs.Ythhfcambdmdgfaa

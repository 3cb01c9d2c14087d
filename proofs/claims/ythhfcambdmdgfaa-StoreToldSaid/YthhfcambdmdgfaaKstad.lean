import Derived.Test.YthhfcambdmdgfaaKstac
import Derived.IntWalk
namespace Go.Proofs.Ythhfcambdmdgfaa
open Go.RowKit Go.Maps
set_option linter.unusedVariables false
set_option linter.unusedSimpArgs false
abbrev OX := ObjD × Value
instance : DecidableEq ObjD := fun a b => if h : sameO a b = true then isTrue (objD_ext h) else isFalse (fun e => h (by rw [e]; exact sameO_refl b))
theorem sameO_eq (a b : ObjD) : sameO a b = decide (a = b) := by
  by_cases h : a = b
  · rw [decide_eq_true h, h]; exact sameO_refl b
  · rw [decide_eq_false h]
    cases q : sameO a b with
    | false => rfl
    | true => exact absurd (objD_ext q) h
def objX (p : OX) : List Value := [.string p.1.key.kind, .string p.1.key.space, .string p.1.key.name, .int .i64 p.1.ver, .string p.1.cls, .bool p.1.term, .bool p.1.best, p.2]
def objC (xs : List OX) : List Value := xs.flatMap objX
theorem objC_get : ∀ (l : List OX) (k : Nat) (hk : k < l.length) (j : Nat), j < 8 → (objC l)[k * 8 + j]? = (objX (l[k]'hk))[j]?
  | p :: r, 0, _, j, hj => by
    show (objX p ++ objC r)[0 * 8 + j]? = (objX p)[j]?
    rw [Nat.zero_mul, Nat.zero_add, List.getElem?_append_left (by simp [objX]; exact hj)]
  | p :: r, k + 1, hk, j, hj => by
    show (objX p ++ objC r)[(k + 1) * 8 + j]? = _
    have hl : (objX p).length = 8 := rfl
    rw [List.getElem?_append_right (by rw [hl]; omega), hl, show (k + 1) * 8 + j - 8 = k * 8 + j by omega]
    rw [objC_get r k (by simpa using hk) j hj]
    rfl
theorem objC_app (l : List OX) (p : OX) : objC (l ++ [p]) = objC l ++ objX p := by simp [objC]
def ObjsS (w : World) (v : Value) (xs : List OX) : Prop := SliS w v 8 xs.length (objC xs) ∧ ∀ p ∈ xs, ObjS w p.2 p.1
def oxs (xs : List OX) : List ObjD := xs.map (·.1)
theorem oxs_len (xs : List OX) : (oxs xs).length = xs.length := by simp [oxs]
def OSmall (l : List ObjD) : Prop := ∀ o ∈ l, objSmall o
section
variable {w w' : World} {v : Value} {xs : List OX}
theorem ObjsS.form (h : ObjsS w v xs) : ∃ A c, v = .slice A xs.length c := h.1.form
theorem ObjsS.below (h : ObjsS w v xs) (hb : Below w.heap.size w w') : ObjsS w' v xs := ⟨h.1.below hb, fun p hp => (h.2 p hp).below hb⟩
/-- Cells of one. -/
structure ObjAt (w : World) (b o : Nat) (p : OX) : Prop where
  c0 : w.cell? ⟨b, o, none⟩ = some (.string p.1.key.kind)
  c1 : w.cell? ⟨b, o + 1, none⟩ = some (.string p.1.key.space)
  c2 : w.cell? ⟨b, o + 2, none⟩ = some (.string p.1.key.name)
  c3 : w.cell? ⟨b, o + 3, none⟩ = some (.int .i64 p.1.ver)
  c4 : w.cell? ⟨b, o + 4, none⟩ = some (.string p.1.cls)
  c5 : w.cell? ⟨b, o + 5, none⟩ = some (.bool p.1.term)
  c6 : w.cell? ⟨b, o + 6, none⟩ = some (.bool p.1.best)
  c7 : w.cell? ⟨b, o + 7, none⟩ = some p.2
theorem ObjsS.at' (h : ObjsS w v xs) {k : Nat} (hk : k < xs.length) : ∃ b off c, v = .slice (some ⟨b, off, none⟩) xs.length c ∧ ObjAt w b (off + k * 8) (xs[k]'hk) ∧ ObjS w (xs[k]'hk).2 (xs[k]'hk).1 := by
  obtain ⟨b, off, c, hv, _, hx⟩ := h.1.at' hk
  refine ⟨b, off, c, hv, ?_, h.2 _ (List.getElem_mem hk)⟩
  have g : ∀ j, j < 8 → ∀ u, (objX (xs[k]'hk))[j]? = some u → w.cell? ⟨b, off + k * 8 + j, none⟩ = some u := fun j hj u hu => hx j hj u (by rw [objC_get xs k hk j hj]; exact hu)
  exact ⟨g 0 (by omega) _ rfl, g 1 (by omega) _ rfl, g 2 (by omega) _ rfl, g 3 (by omega) _ rfl, g 4 (by omega) _ rfl, g 5 (by omega) _ rfl, g 6 (by omega) _ rfl, g 7 (by omega) _ rfl⟩
end
theorem ObjAt.below {w w' : World} {b o : Nat} {p : OX} (h : ObjAt w b o p) (hb : Below w.heap.size w w') : ObjAt w' b o p :=
  ⟨cb hb h.c0, cb hb h.c1, cb hb h.c2, cb hb h.c3, cb hb h.c4, cb hb h.c5, cb hb h.c6, cb hb h.c7⟩
theorem small_at {xs : List OX} (h : OSmall (oxs xs)) {k : Nat} (hk : k < xs.length) : objSmall (xs[k]'hk).1 := h _ (List.mem_map.2 ⟨_, List.getElem_mem hk, rfl⟩)
theorem oxs_take {xs : List OX} {k : Nat} (hk : k < xs.length) : (oxs xs).take (k + 1) = (oxs xs).take k ++ [(xs[k]'hk).1] := by
  rw [List.take_succ_eq_append_getElem (by rw [oxs_len]; exact hk)]; simp [oxs]
set_option maxRecDepth 100000 in
set_option maxHeartbeats 8000000 in
theorem robjs_calls (w : World) {u v : Value} {l m : List OX} (hu : ObjsS w u l) (hv : ObjsS w v m) (hl : l.length ≤ 1000000) (hm : m.length ≤ 1000000) (hsl : OSmall (oxs l)) (hsm : OSmall (oxs m)) :
    Calls Try.prog 18 #[u, v] w fun e w' => e = .returned (.bool (decide (oxs l = oxs m))) ∧ Below w.heap.size w w' := by
  have hB := Below.refl w.heap.size w
  have HU := Lib.hid hu
  have HV := Lib.hid hv
  have HSL := Lib.hid hsl; have HSM := Lib.hid hsm
  obtain ⟨au, cu, rfl⟩ := hu.form
  obtain ⟨av, cv, rfl⟩ := hv.form
  clear hu hv hsl hsm
  by_cases hlen : l.length = m.length
  · have HL := Lib.hid hlen
    rw [hlen] at hl ⊢
    rw [hlen] at HU
    have HLM := Lib.hid (show ∀ j (h1 : j < m.length), j < l.length from fun j h => by omega)
    clear hlen
    go_enter Try.func18, Try.ntmps18
    go_wp2
    go_loopw [5] (fun i wr => ∃ k : Nat, i = .int .i64 k ∧ k ≤ m.length ∧ Hid ((oxs l).take k = (oxs m).take k) ∧ Below w.heap.size w wr) (fun i _ => m.length - (intOf i).toNat)
    case atStart => exact ⟨0, rfl, Nat.zero_le _, Lib.hid rfl, hB⟩
    case round =>
      obtain ⟨k, rfl, hk, HT, hB⟩ := hrel
      by_cases hkl : k < m.length
      · have hkI : (k : Int) < m.length := by omega
        have hk2 := HLM.out k hkl
        obtain ⟨b1, o1, d1, he1, q1, s1⟩ := HU.out.at' hk2
        obtain ⟨b2, o2, d2, he2, q2, s2⟩ := HV.out.at' hkl
        rw [HL.out] at he1
        cases he1
        cases he2
        have HX := Lib.hid (oxs_take hk2)
        have HY := Lib.hid (oxs_take hkl)
        have HNE := Lib.hid (show (l[k]'hk2).1 ≠ (m[k]'hkl).1 → oxs l ≠ oxs m from fun h e => h (by
          have e1 : (oxs l)[k]? = some (l[k]'hk2).1 := by simp [oxs, hk2]
          have e2 : (oxs m)[k]? = some (m[k]'hkl).1 := by simp [oxs, hkl]
          rw [e, e2] at e1; exact (Option.some.inj e1).symm))
        have z1 := small_at HSL.out hk2
        have z2 := small_at HSM.out hkl
        generalize l[k]'hk2 = x at q1 s1 z1 HX HNE
        generalize m[k]'hkl = y at q2 s2 z2 HY HNE
        obtain ⟨x1, x2⟩ := x
        obtain ⟨y1, y2⟩ := y
        simp only at s1 s2 z1 z2 HX HY HNE
        obtain ⟨V, rfl⟩ : ∃ V : World, V = wr := ⟨_, rfl⟩
        have HB0 := Lib.hid hB
        have Q1 := Lib.hid (q1.below hB); have Q2 := Lib.hid (q2.below hB)
        have S1 := Lib.hid (s1.below hB); have S2 := Lib.hid (s2.below hB)
        have hz : x1.charge.length ≤ 1000000 ∧ y1.charge.length ≤ 1000000 := by have := z1.2.2.1; have := z2.2.2.1; omega
        clear q1 q2 s1 s2 z1 z2
        have hB := Below.refl V.heap.size V
        have HC := Lib.hid (fun (U : World) (h : Below V.heap.size V U) => rosame_calls U (S1.out.below h) (S2.out.below h) hz)
        clear hz
        unfold objV at HC
        by_cases hxy : x1 = y1
        · have HS := Lib.hid (show sameO x1 y1 = true by rw [sameO_eq]; exact decide_eq_true hxy)
          have HXY := Lib.hid hxy
          clear hxy
          go_upto_region 6 with fail
          have hB := hB.drew
          refine region_seq (fun w' => Below V.heap.size V w') [(0, true), (1, true), (2, true), (3, true), (4, true), (5, true), (6, true), (7, true), (8, false), (9, true)] (by kernel_rfl) (by kernel_rfl) (fun _ _ _ _ h => h) hB ?_
          try generalize World.drew _ = wS at hB ⊢
          refine seq_take (v := ?_) (a' := ?_) (some 18) rfl rfl (by rfl) ?_ ?_ ?_
          rotate_left; rotate_left
          · intro w' hS; go_simp; with_reducible rfl
          · simp only [Act.put, List.setIfInBounds_toArray, List.set_cons_zero, List.set_cons_succ]; rfl
          refine seq_take (v := ?_) (a' := ?_) (some 19) rfl rfl (by rfl) ?_ ?_ ?_
          rotate_left; rotate_left
          · intro w' hS; go_simp; with_reducible rfl
          · simp only [Act.put, List.setIfInBounds_toArray, List.set_cons_zero, List.set_cons_succ]; rfl
          refine seq_take (v := ?_) (a' := ?_) (some 20) rfl rfl (by rfl) ?_ ?_ ?_
          rotate_left; rotate_left
          · intro w' hS; go_simp; with_reducible rfl
          · simp only [Act.put, List.setIfInBounds_toArray, List.set_cons_zero, List.set_cons_succ]; rfl
          refine seq_take (v := ?_) (a' := ?_) (some 21) rfl rfl (by rfl) ?_ ?_ ?_
          rotate_left; rotate_left
          · intro w' hS; have p1 := Q1.out.below hS; have p2 := Q2.out.below hS; have a0 := p1.c0; have a1 := p1.c1; have a2 := p1.c2; have a3 := p1.c3; have a4 := p1.c4; have a5 := p1.c5; have a6 := p1.c6; have a7 := p1.c7; have b0 := p2.c0; have b1 := p2.c1; have b2 := p2.c2; have b3 := p2.c3; have b4 := p2.c4; have b5 := p2.c5; have b6 := p2.c6; have b7 := p2.c7; go_simp; with_reducible rfl
          · simp only [Act.put, List.setIfInBounds_toArray, List.set_cons_zero, List.set_cons_succ]; rfl
          refine seq_take (v := ?_) (a' := ?_) (some 22) rfl rfl (by rfl) ?_ ?_ ?_
          rotate_left; rotate_left
          · intro w' hS; go_simp; with_reducible rfl
          · simp only [Act.put, List.setIfInBounds_toArray, List.set_cons_zero, List.set_cons_succ]; rfl
          refine seq_take (v := ?_) (a' := ?_) (some 23) rfl rfl (by rfl) ?_ ?_ ?_
          rotate_left; rotate_left
          · intro w' hS; go_simp; with_reducible rfl
          · simp only [Act.put, List.setIfInBounds_toArray, List.set_cons_zero, List.set_cons_succ]; rfl
          refine seq_take (v := ?_) (a' := ?_) (some 24) rfl rfl (by rfl) ?_ ?_ ?_
          rotate_left; rotate_left
          · intro w' hS; go_simp; with_reducible rfl
          · simp only [Act.put, List.setIfInBounds_toArray, List.set_cons_zero, List.set_cons_succ]; rfl
          refine seq_take (v := ?_) (a' := ?_) (some 25) rfl rfl (by rfl) ?_ ?_ ?_
          rotate_left; rotate_left
          · intro w' hS; have p1 := Q1.out.below hS; have p2 := Q2.out.below hS; have a0 := p1.c0; have a1 := p1.c1; have a2 := p1.c2; have a3 := p1.c3; have a4 := p1.c4; have a5 := p1.c5; have a6 := p1.c6; have a7 := p1.c7; have b0 := p2.c0; have b1 := p2.c1; have b2 := p2.c2; have b3 := p2.c3; have b4 := p2.c4; have b5 := p2.c5; have b6 := p2.c6; have b7 := p2.c7; go_simp; with_reducible rfl
          · simp only [Act.put, List.setIfInBounds_toArray, List.set_cons_zero, List.set_cons_succ]; rfl
          refine seq_call (args := ?_) Try.func24 (by kernel_rfl) rfl (some 26) rfl rfl (by rfl) rfl ?_ ?_
          rotate_left
          · simp only [List.map_toArray, List.map_cons, List.map_nil]; go_simp; rfl
          with_reducible refine (HC.out _ hB).mono ?_
          rintro e w' ⟨rfl, hb⟩
          rw [HS.out]
          refine ⟨_, rfl, bl_next (by repeat (first | with_reducible exact hB | refine Below.alloc ?_ (by have := hB.size; simp; omega) _ | refine bl_dN ?_ _ | refine Below.drew ?_ | refine Below.setCell ?_ (by have := hB.size; simp; omega) _)) hb, ?_⟩
          have hB := bl_next (by repeat (first | with_reducible exact hB | refine Below.alloc ?_ (by have := hB.size; simp; omega) _ | refine bl_dN ?_ _ | refine Below.drew ?_ | refine Below.setCell ?_ (by have := hB.size; simp; omega) _)) hb; clear hb
          simp only [Act.put, List.setIfInBounds_toArray, List.set_cons_zero, List.set_cons_succ]
          refine seq_take (v := ?_) (a' := ?_) (some 6) rfl rfl (by rfl) ?_ ?_ ?_
          rotate_left; rotate_left
          · intro w' hS; go_simp; with_reducible rfl
          · simp only [Act.put, List.setIfInBounds_toArray, List.set_cons_zero, List.set_cons_succ]; rfl
          refine seq_done ?_
          go_wp2_with fail
          go_roundw
          case rel => exact ⟨k + 1, by simp, by omega, Lib.hid (by rw [HX.out, HY.out, HT.out, HXY.out]), bl_next HB0.out hB⟩
          case measure => simp [intOf]; omega
        · have HS := Lib.hid (show sameO x1 y1 = false by rw [sameO_eq]; exact decide_eq_false hxy)
          have HXY := Lib.hid (HNE.out hxy)
          clear hxy
          go_upto_region 6 with fail
          have hB := hB.drew
          refine region_seq (fun w' => Below V.heap.size V w') [(0, true), (1, true), (2, true), (3, true), (4, true), (5, true), (6, true), (7, true), (8, false), (9, true)] (by kernel_rfl) (by kernel_rfl) (fun _ _ _ _ h => h) hB ?_
          try generalize World.drew _ = wS at hB ⊢
          refine seq_take (v := ?_) (a' := ?_) (some 18) rfl rfl (by rfl) ?_ ?_ ?_
          rotate_left; rotate_left
          · intro w' hS; go_simp; with_reducible rfl
          · simp only [Act.put, List.setIfInBounds_toArray, List.set_cons_zero, List.set_cons_succ]; rfl
          refine seq_take (v := ?_) (a' := ?_) (some 19) rfl rfl (by rfl) ?_ ?_ ?_
          rotate_left; rotate_left
          · intro w' hS; go_simp; with_reducible rfl
          · simp only [Act.put, List.setIfInBounds_toArray, List.set_cons_zero, List.set_cons_succ]; rfl
          refine seq_take (v := ?_) (a' := ?_) (some 20) rfl rfl (by rfl) ?_ ?_ ?_
          rotate_left; rotate_left
          · intro w' hS; go_simp; with_reducible rfl
          · simp only [Act.put, List.setIfInBounds_toArray, List.set_cons_zero, List.set_cons_succ]; rfl
          refine seq_take (v := ?_) (a' := ?_) (some 21) rfl rfl (by rfl) ?_ ?_ ?_
          rotate_left; rotate_left
          · intro w' hS; have p1 := Q1.out.below hS; have p2 := Q2.out.below hS; have a0 := p1.c0; have a1 := p1.c1; have a2 := p1.c2; have a3 := p1.c3; have a4 := p1.c4; have a5 := p1.c5; have a6 := p1.c6; have a7 := p1.c7; have b0 := p2.c0; have b1 := p2.c1; have b2 := p2.c2; have b3 := p2.c3; have b4 := p2.c4; have b5 := p2.c5; have b6 := p2.c6; have b7 := p2.c7; go_simp; with_reducible rfl
          · simp only [Act.put, List.setIfInBounds_toArray, List.set_cons_zero, List.set_cons_succ]; rfl
          refine seq_take (v := ?_) (a' := ?_) (some 22) rfl rfl (by rfl) ?_ ?_ ?_
          rotate_left; rotate_left
          · intro w' hS; go_simp; with_reducible rfl
          · simp only [Act.put, List.setIfInBounds_toArray, List.set_cons_zero, List.set_cons_succ]; rfl
          refine seq_take (v := ?_) (a' := ?_) (some 23) rfl rfl (by rfl) ?_ ?_ ?_
          rotate_left; rotate_left
          · intro w' hS; go_simp; with_reducible rfl
          · simp only [Act.put, List.setIfInBounds_toArray, List.set_cons_zero, List.set_cons_succ]; rfl
          refine seq_take (v := ?_) (a' := ?_) (some 24) rfl rfl (by rfl) ?_ ?_ ?_
          rotate_left; rotate_left
          · intro w' hS; go_simp; with_reducible rfl
          · simp only [Act.put, List.setIfInBounds_toArray, List.set_cons_zero, List.set_cons_succ]; rfl
          refine seq_take (v := ?_) (a' := ?_) (some 25) rfl rfl (by rfl) ?_ ?_ ?_
          rotate_left; rotate_left
          · intro w' hS; have p1 := Q1.out.below hS; have p2 := Q2.out.below hS; have a0 := p1.c0; have a1 := p1.c1; have a2 := p1.c2; have a3 := p1.c3; have a4 := p1.c4; have a5 := p1.c5; have a6 := p1.c6; have a7 := p1.c7; have b0 := p2.c0; have b1 := p2.c1; have b2 := p2.c2; have b3 := p2.c3; have b4 := p2.c4; have b5 := p2.c5; have b6 := p2.c6; have b7 := p2.c7; go_simp; with_reducible rfl
          · simp only [Act.put, List.setIfInBounds_toArray, List.set_cons_zero, List.set_cons_succ]; rfl
          refine seq_call (args := ?_) Try.func24 (by kernel_rfl) rfl (some 26) rfl rfl (by rfl) rfl ?_ ?_
          rotate_left
          · simp only [List.map_toArray, List.map_cons, List.map_nil]; go_simp; rfl
          with_reducible refine (HC.out _ hB).mono ?_
          rintro e w' ⟨rfl, hb⟩
          rw [HS.out]
          refine ⟨_, rfl, bl_next (by repeat (first | with_reducible exact hB | refine Below.alloc ?_ (by have := hB.size; simp; omega) _ | refine bl_dN ?_ _ | refine Below.drew ?_ | refine Below.setCell ?_ (by have := hB.size; simp; omega) _)) hb, ?_⟩
          have hB := bl_next (by repeat (first | with_reducible exact hB | refine Below.alloc ?_ (by have := hB.size; simp; omega) _ | refine bl_dN ?_ _ | refine Below.drew ?_ | refine Below.setCell ?_ (by have := hB.size; simp; omega) _)) hb; clear hb
          simp only [Act.put, List.setIfInBounds_toArray, List.set_cons_zero, List.set_cons_succ]
          refine seq_take (v := ?_) (a' := ?_) (some 6) rfl rfl (by rfl) ?_ ?_ ?_
          rotate_left; rotate_left
          · intro w' hS; go_simp; with_reducible rfl
          · simp only [Act.put, List.setIfInBounds_toArray, List.set_cons_zero, List.set_cons_succ]; rfl
          refine seq_done ?_
          go_wp2_with fail
          go_ret
          exact ⟨ret_bool (by rw [decide_eq_false HXY.out]), bl_next HB0.out hB⟩
      · obtain rfl : k = m.length := by omega
        go_wp2
        go_ret
        exact ⟨ret_bool (by rw [decide_eq_true]; have := HT.out; rw [← oxs_len m, List.take_length, oxs_len, ← HL.out, ← oxs_len l, List.take_length] at this; exact this), hB⟩
  · have hlm : ¬ (l.length = m.length) := hlen
    have HNE := Lib.hid (show oxs l ≠ oxs m from fun e => hlen (by rw [← oxs_len, e, oxs_len]))
    clear hlen
    go_enter Try.func18, Try.ntmps18
    go_wp2
    go_ret
    exact ⟨ret_bool (by rw [decide_eq_false HNE.out]), hB⟩
end Go.Proofs.Ythhfcambdmdgfaa
namespace Go.Proofs.Ythhfcambdmdgfaa
open Go.RowKit Go.Maps
set_option linter.unusedVariables false
set_option linter.unusedSimpArgs false
def kT (k : KeyD) : ByteArray := keyText k.kind k.space k.name
def kTO (o : ObjD) : ByteArray := kT o.key
section
variable {α : Type} {p : α → Bool} {t : α → ByteArray} {l : List α}
/-- Each right, rising. -/
def okL (p : α → Bool) (t : α → ByteArray) (l : List α) : Bool := l.all p && risB (l.map t)
theorem okL_iff : okL p t l = true ↔ (∀ x ∈ l, p x = true) ∧ l.Pairwise (fun x y => ltB (t x) (t y) = true) := by
  unfold okL; rw [Bool.and_eq_true, List.all_eq_true, risB_iff, List.pairwise_map]
theorem okL_take {k : Nat} (h : okL p t (l.take k) = false) : okL p t l = false := by
  cases q : okL p t l with
  | false => rfl
  | true =>
    obtain ⟨h1, h2⟩ := okL_iff.1 q
    rw [okL_iff.2 ⟨fun x hx => h1 x (List.mem_of_mem_take hx), List.Pairwise.sublist (List.take_sublist k l) h2⟩] at h
    cases h
theorem okL_at {k : Nat} (h : k < l.length) (hk : okL p t (l.take k) = true) : okL p t (l.take (k + 1)) = (p (l[k]'h) && (if h0 : 0 < k then ltB (t (l[k - 1]'(by omega))) (t (l[k]'h)) else true)) := by
  unfold okL at hk ⊢
  cases k with
  | zero =>
    cases l with
    | nil => cases h
    | cons x r => simp [risB]
  | succ j =>
    have e1 : l.take (j + 1) = l.take j ++ [l[j]'(by omega)] := List.take_succ_eq_append_getElem (by omega)
    have e2 : l.take (j + 1 + 1) = l.take j ++ [l[j]'(by omega)] ++ [l[j + 1]'h] := by rw [← e1]; exact List.take_succ_eq_append_getElem h
    rw [e1] at hk
    rw [e2, dif_pos (by omega)]
    have := risB_snoc ((l.take j).map t) (t (l[j]'(by omega))) (t (l[j + 1]'h))
    simp only [List.map_append, List.map_cons, List.map_nil, List.all_append, List.all_cons, List.all_nil, Bool.and_true] at this hk ⊢
    rw [this]
    simp only [Bool.and_eq_true] at hk
    rw [hk.1.1, hk.1.2, hk.2, Bool.true_and, Bool.true_and, Bool.true_and]
    rfl
end
structure EvD where
  kind : Int
  obj : ObjD
  ver : Int
  objs : List ObjD
def evV (kd : Int) (o : ObjD) (sl : Value) (vr : Int) (ol : Value) : Value := .agg #[.int .i64 kd, .string o.key.kind, .string o.key.space, .string o.key.name, .int .i64 o.ver, .string o.cls, .bool o.term, .bool o.best, sl, .int .i64 vr, ol]
def relP (v : Int) (o : ObjD) : Bool := rightO o && decide (o.ver ≤ v)
def relB (v : Int) (l : List ObjD) : Bool := okL (relP v) kTO l && decide (0 ≤ v) && decide (l.length ≤ 1000)
def rightE (e : EvD) : Bool :=
  if e.kind = 0 then rightO e.obj else if e.kind = 1 then keyOk e.obj.key && decide (1 ≤ e.obj.ver) else if e.kind = 2 then relB e.ver e.objs else if e.kind = 3 then decide (0 ≤ e.ver) else false
def verE (e : EvD) : Int × Int := if rightE e then (if e.kind = 0 ∨ e.kind = 1 then e.obj.ver else e.ver, 0) else (0, 1)
end Go.Proofs.Ythhfcambdmdgfaa
namespace Go.Proofs.Ythhfcambdmdgfaa
open Go.RowKit Go.Maps
set_option linter.unusedVariables false
set_option linter.unusedSimpArgs false
def sameE (a b : EvD) : Bool := sameO a.obj b.obj && decide (a.objs = b.objs) && decide (a.kind = b.kind) && decide (a.ver = b.ver)
theorem ret_ver {a b c d : Int} (h1 : a = c) (h2 : b = d) : Ending.returned (.tuple #[.int .i64 a, .int .i64 b]) = .returned (.tuple #[.int .i64 c, .int .i64 d]) := by rw [h1, h2]
theorem fit_small' {o : ObjD} (h : o.key.kind.size ≤ 200 ∧ o.key.space.size ≤ 200 ∧ o.key.name.size ≤ 200 ∧ o.cls.size ≤ 200 ∧ o.charge.length ≤ 40 ∧ ∀ p ∈ o.charge, p.1.size ≤ 200) : objSmall o :=
  ⟨⟨by omega, by omega, by omega⟩, by omega, by omega, fun p hp => Nat.le_trans (h.2.2.2.2.2 p hp) (by omega)⟩
end Go.Proofs.Ythhfcambdmdgfaa

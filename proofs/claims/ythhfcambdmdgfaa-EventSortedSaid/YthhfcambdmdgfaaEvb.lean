import Derived.Test.YthhfcambdmdgfaaEva
import Derived.IntWalk
namespace Go.Proofs.Ythhfcambdmdgfaa
open Go.RowKit Go.Maps
set_option linter.unusedVariables false
set_option linter.unusedSimpArgs false
/-! ### Events -/
def kT (k : KeyD) : ByteArray := keyText k.kind k.space k.name
def kTO (o : ObjD) : ByteArray := kT o.key
section
variable {α : Type} {p : α → Bool} {t : α → ByteArray} {l : List α}
/-- Each right, rising. -/
def okL (p : α → Bool) (t : α → ByteArray) (l : List α) : Bool := l.all p && risB (l.map t)
theorem okL_iff : okL p t l = true ↔ (∀ x ∈ l, p x = true) ∧ l.Pairwise (fun x y => ltB (t x) (t y) = true) := by
  unfold okL; rw [Bool.and_eq_true, List.all_eq_true, risB_iff, List.pairwise_map]
theorem okL_take {k : Nat} (h : okL p t (l.take k) = false) : okL p t l = false := by
  cases q : okL p t l with
  | false => rfl
  | true =>
    obtain ⟨h1, h2⟩ := okL_iff.1 q
    rw [okL_iff.2 ⟨fun x hx => h1 x (List.mem_of_mem_take hx), List.Pairwise.sublist (List.take_sublist k l) h2⟩] at h
    cases h
theorem okL_at {k : Nat} (h : k < l.length) (hk : okL p t (l.take k) = true) : okL p t (l.take (k + 1)) = (p (l[k]'h) && (if h0 : 0 < k then ltB (t (l[k - 1]'(by omega))) (t (l[k]'h)) else true)) := by
  unfold okL at hk ⊢
  cases k with
  | zero =>
    cases l with
    | nil => cases h
    | cons x r => simp [risB]
  | succ j =>
    have e1 : l.take (j + 1) = l.take j ++ [l[j]'(by omega)] := List.take_succ_eq_append_getElem (by omega)
    have e2 : l.take (j + 1 + 1) = l.take j ++ [l[j]'(by omega)] ++ [l[j + 1]'h] := by rw [← e1]; exact List.take_succ_eq_append_getElem h
    rw [e1] at hk
    rw [e2, dif_pos (by omega)]
    have := risB_snoc ((l.take j).map t) (t (l[j]'(by omega))) (t (l[j + 1]'h))
    simp only [List.map_append, List.map_cons, List.map_nil, List.all_append, List.all_cons, List.all_nil, Bool.and_true] at this hk ⊢
    rw [this]
    simp only [Bool.and_eq_true] at hk
    rw [hk.1.1, hk.1.2, hk.2, Bool.true_and, Bool.true_and, Bool.true_and]
    rfl
end
structure EvD where
  kind : Int
  obj : ObjD
  ver : Int
  objs : List ObjD
def evV (kd : Int) (o : ObjD) (sl : Value) (vr : Int) (ol : Value) : Value := .agg #[.int .i64 kd, .string o.key.kind, .string o.key.space, .string o.key.name, .int .i64 o.ver, .string o.cls, .bool o.term, .bool o.best, sl, .int .i64 vr, ol]
def relP (v : Int) (o : ObjD) : Bool := rightO o && decide (o.ver ≤ v)
def relB (v : Int) (l : List ObjD) : Bool := okL (relP v) kTO l && decide (0 ≤ v) && decide (l.length ≤ 1000)
def rightE (e : EvD) : Bool :=
  if e.kind = 0 then rightO e.obj else if e.kind = 1 then keyOk e.obj.key && decide (1 ≤ e.obj.ver) else if e.kind = 2 then relB e.ver e.objs else if e.kind = 3 then decide (0 ≤ e.ver) else false
def verE (e : EvD) : Int × Int := if rightE e then (if e.kind = 0 ∨ e.kind = 1 then e.obj.ver else e.ver, 0) else (0, 1)
set_option maxRecDepth 100000 in
set_option maxHeartbeats 16000000 in
theorem revright_calls (w : World) (kd : Int) {o : ObjD} {sl : Value} (vr : Int) {ol : Value} {xs : List OX} (ho : ObjS w sl o) (hs : objSmall o) (hx : ObjsS w ol xs) (hxs : OSmall (oxs xs)) (hl : xs.length ≤ 1000000) :
    Calls Try.prog 22 #[evV kd o sl vr ol] w fun e w' => e = .returned (.bool (rightE ⟨kd, o, vr, oxs xs⟩)) ∧ Below w.heap.size w w' := by
  have HO := Lib.hid ho; have HX := Lib.hid hx; have HSM := Lib.hid hxs; have HS := Lib.hid hs
  have HLN := Lib.hid (oxs_len xs)
  obtain ⟨ao, co, rfl⟩ := ho.1.form
  obtain ⟨al, cl, rfl⟩ := hx.form
  obtain ⟨⟨hz1, hz2, hz3⟩, hz4, hz5, hz6⟩ := hs
  clear ho hx hxs hz6
  unfold evV
  have HE := Lib.hid (show rightE ⟨kd, o, vr, oxs xs⟩ = if kd = 0 then rightO o else if kd = 1 then keyOk o.key && decide (1 ≤ o.ver) else if kd = 2 then relB vr (oxs xs) else if kd = 3 then decide (0 ≤ vr) else false from rfl)
  go_enter Try.func22, Try.ntmps22
  go_upto_region 1 with fail
  first | with_reducible refine name_wp ?_ | with_reducible refine name_calls ?_
  intro W hWeq
  have g0 : W.heap[w.heap.size]? = some (.cells #[.int .i64 kd, .string o.key.kind, .string o.key.space, .string o.key.name, .int .i64 o.ver, .string o.cls, .bool o.term, .bool o.best, .slice ao o.charge.length co, .int .i64 vr, .slice al xs.length cl] 30) := by rw [hWeq]; repeat (first | (with_reducible exact blk_newAt _ _ (by simp)) | with_reducible refine blk_drew ?_ | with_reducible refine blk_dN ?_ _ | with_reducible refine blk_old ?_ _)
  have hw : Below w.heap.size w W := by rw [hWeq]; repeat (first | with_reducible exact Below.refl _ _ | with_reducible refine Below.drew ?_ | with_reducible refine bl_dN ?_ _ | with_reducible refine Below.alloc ?_ (by simp <;> omega) _)
  clear hWeq
  have hz : w.heap.size + 1 ≤ W.heap.size := by have := blk_lt g0; omega
  have c0_0 : W.cell? ⟨w.heap.size, 0, none⟩ = some (.int .i64 kd) := blk_cell g0 0
  have c0_1 : W.cell? ⟨w.heap.size, 1, none⟩ = some (.string o.key.kind) := blk_cell g0 1
  have c0_2 : W.cell? ⟨w.heap.size, 2, none⟩ = some (.string o.key.space) := blk_cell g0 2
  have c0_3 : W.cell? ⟨w.heap.size, 3, none⟩ = some (.string o.key.name) := blk_cell g0 3
  have c0_4 : W.cell? ⟨w.heap.size, 4, none⟩ = some (.int .i64 o.ver) := blk_cell g0 4
  have c0_5 : W.cell? ⟨w.heap.size, 5, none⟩ = some (.string o.cls) := blk_cell g0 5
  have c0_6 : W.cell? ⟨w.heap.size, 6, none⟩ = some (.bool o.term) := blk_cell g0 6
  have c0_7 : W.cell? ⟨w.heap.size, 7, none⟩ = some (.bool o.best) := blk_cell g0 7
  have c0_8 : W.cell? ⟨w.heap.size, 8, none⟩ = some (.slice ao o.charge.length co) := blk_cell g0 8
  have c0_9 : W.cell? ⟨w.heap.size, 9, none⟩ = some (.int .i64 vr) := blk_cell g0 9
  have c0_10 : W.cell? ⟨w.heap.size, 10, none⟩ = some (.slice al xs.length cl) := blk_cell g0 10
  have f0 : ∀ j, W.frozen? ⟨w.heap.size, j, none⟩ = false := blk_free g0
  have hB : Below W.heap.size W W := Below.refl _ _
  have G0 := Lib.hid g0; clear g0
  have F0 := Lib.hid f0; clear f0
  have Hw := Lib.hid hw; clear hw
  have HWO := Lib.hid (HO.out.below Hw.out); have HWX := Lib.hid (HX.out.below Hw.out)
  by_cases h0 : kd = 0
  · subst h0
    have HR := Lib.hid (show rightE ⟨0, o, vr, oxs xs⟩ = rightO o from rfl)
    have HC := Lib.hid (roright_calls W HWO.out HS.out)
    unfold objV at HC
    go_wp2_with (go_at_call 61; refine HC.out.mono ?_; rintro e w' ⟨rfl, hb⟩; have hB := bl_next hB hb; clear hb)
    go_ret
    exact ⟨ret_bool HR.out.symm, bl_from Hw.out hB⟩
  by_cases h1 : kd = 1
  · subst h1
    have HR := Lib.hid (show rightE ⟨1, o, vr, oxs xs⟩ = (keyB o.key.kind o.key.space o.key.name && decide (1 ≤ o.ver)) from rfl)
    obtain ⟨kb, hkb⟩ : ∃ b, keyB o.key.kind o.key.space o.key.name = b := ⟨_, rfl⟩
    have HKB := Lib.hid hkb
    rw [hkb] at HR
    clear hkb
    cases kb with
    | false =>
      go_wp2_with (go_at_call 62; refine (refKey_calls _ _ _ _ (by omega) (by omega) (by omega)).mono ?_; rintro e w' ⟨rfl, hb⟩; rw [HKB.out]; have hB := bl_next hB hb; clear hb; have k0_0 := cb hB c0_0; have k0_1 := cb hB c0_1; have k0_2 := cb hB c0_2; have k0_3 := cb hB c0_3; have k0_4 := cb hB c0_4; have k0_5 := cb hB c0_5; have k0_6 := cb hB c0_6; have k0_7 := cb hB c0_7; have k0_8 := cb hB c0_8; have k0_9 := cb hB c0_9; have k0_10 := cb hB c0_10)
      go_ret
      exact ⟨ret_bool (by rw [HR.out]; rfl), bl_from Hw.out hB⟩
    | true =>
      go_wp2_with (go_at_call 62; refine (refKey_calls _ _ _ _ (by omega) (by omega) (by omega)).mono ?_; rintro e w' ⟨rfl, hb⟩; rw [HKB.out]; have hB := bl_next hB hb; clear hb; have k0_0 := cb hB c0_0; have k0_1 := cb hB c0_1; have k0_2 := cb hB c0_2; have k0_3 := cb hB c0_3; have k0_4 := cb hB c0_4; have k0_5 := cb hB c0_5; have k0_6 := cb hB c0_6; have k0_7 := cb hB c0_7; have k0_8 := cb hB c0_8; have k0_9 := cb hB c0_9; have k0_10 := cb hB c0_10)
      go_ret
      exact ⟨ret_bool (by rw [HR.out]; first | done | simp), bl_from Hw.out hB⟩
  by_cases h3 : kd = 3
  · subst h3
    have HR := Lib.hid (show rightE ⟨3, o, vr, oxs xs⟩ = decide (0 ≤ vr) from rfl)
    go_wp2
    go_ret
    exact ⟨ret_bool (by rw [HR.out]; first | done | simp), bl_from Hw.out hB⟩
  by_cases h2 : kd = 2
  · subst h2
    have HR := Lib.hid (show rightE ⟨2, o, vr, oxs xs⟩ = (okL (relP vr) kTO (oxs xs) && decide (0 ≤ vr) && decide (xs.length ≤ 1000)) by rw [HE.out, if_neg (by decide), if_neg (by decide), if_pos rfl]; unfold relB; rw [HLN.out])
    clear h0 h1 h3
    go_wp2
    go_loopw [4] (fun i wr => ∃ k : Nat, i = .int .i64 k ∧ k ≤ xs.length ∧ Hid (okL (relP vr) kTO ((oxs xs).take k) = true) ∧ Below W.heap.size W wr) (fun i _ => xs.length - (intOf i).toNat)
    case atStart => exact ⟨0, rfl, Nat.zero_le _, Lib.hid rfl, hB⟩
    case round =>
      clear hB
      obtain ⟨k, rfl, hk, HT, hB⟩ := hrel
      have k0_0 := cb hB c0_0; have k0_1 := cb hB c0_1; have k0_2 := cb hB c0_2; have k0_3 := cb hB c0_3; have k0_4 := cb hB c0_4; have k0_5 := cb hB c0_5; have k0_6 := cb hB c0_6; have k0_7 := cb hB c0_7; have k0_8 := cb hB c0_8; have k0_9 := cb hB c0_9; have k0_10 := cb hB c0_10
      by_cases hkl : k < xs.length
      · have hkI : (k : Int) < xs.length := by omega
        obtain ⟨b, of, c, he, q, s⟩ := HWX.out.at' hkl
        cases he
        have z := small_at HSM.out hkl
        have hgo : k < (oxs xs).length := by rw [oxs_len]; exact hkl
        have NOT := Lib.hid (show okL (relP vr) kTO ((oxs xs).take (k + 1)) = false → rightE ⟨2, o, vr, oxs xs⟩ = false from fun e => by rw [HR.out, okL_take e]; rfl)
        have STEP := Lib.hid (okL_at hgo HT.out)
        have EK : (oxs xs)[k]'hgo = (xs[k]'hkl).1 := by simp [oxs]
        rw [EK] at STEP
        have PREV : Hid (∀ h0 : 0 < k, ∃ p : OX, (oxs xs)[k - 1]'(by omega) = p.1 ∧ objSmall p.1 ∧ ObjAt wr b (of + (k - 1) * 8) p) := Lib.hid fun h0 => by
          obtain ⟨b', o', c', he', q', _⟩ := HWX.out.at' (show k - 1 < xs.length by omega)
          cases he'
          exact ⟨_, by simp [oxs], small_at HSM.out (show k - 1 < xs.length by omega), q'.below hB⟩
        clear EK
        generalize xs[k]'hkl = x at q s z STEP
        obtain ⟨x, sx⟩ := x
        simp only at s z STEP
        obtain ⟨V, rfl⟩ : ∃ V : World, V = wr := ⟨_, rfl⟩
        have HB0 := Lib.hid hB
        have S1 := Lib.hid (s.below hB)
        have q := q.below hB
        have Q1 := Lib.hid q
        have d0 := q.c0; have d1 := q.c1; have d2 := q.c2; have d3 := q.c3; have d4 := q.c4; have d5 := q.c5; have d6 := q.c6; have d7 := q.c7
        simp only at d0 d1 d2 d3 d4 d5 d6 d7
        clear q s
        have hB := Below.refl V.heap.size V
        have HC := Lib.hid (roright_calls V S1.out z)
        unfold objV at HC
        have hzx1 := z.1.1; have hzx2 := z.1.2.1; have hzx3 := z.1.2.2
        clear z
        obtain ⟨rx, hrx⟩ : ∃ b, rightO x = b := ⟨_, rfl⟩
        have HRX := Lib.hid hrx
        have HP := Lib.hid (show relP vr x = (rx && decide (x.ver ≤ vr)) by rw [← hrx]; rfl)
        clear hrx
        cases rx with
        | false =>
          have HN := Lib.hid (NOT.out (by rw [STEP.out, HP.out]; rfl))
          go_upto_region 14 with (go_at_call 61; refine HC.out.mono ?_; rintro e w' ⟨rfl, hb⟩; rw [HRX.out]; have hB := bl_next hB hb; clear hb; have k0_0 := cb hB k0_0; have k0_1 := cb hB k0_1; have k0_2 := cb hB k0_2; have k0_3 := cb hB k0_3; have k0_4 := cb hB k0_4; have k0_5 := cb hB k0_5; have k0_6 := cb hB k0_6; have k0_7 := cb hB k0_7; have k0_8 := cb hB k0_8; have k0_9 := cb hB k0_9; have k0_10 := cb hB k0_10)
          have hB := hB.drew
          refine region_seq (fun w' => Below V.heap.size V w') [(0, true), (1, true), (2, true), (3, true), (4, true), (5, true), (6, true), (7, true), (8, true), (9, true), (10, true), (11, true), (12, true)] (by kernel_rfl) (by kernel_rfl) (fun _ _ _ _ h => h) hB ?_
          try generalize World.drew _ = wS at hB ⊢
          refine seq_take (v := ?_) (a' := ?_) (some 47) rfl rfl (by rfl) ?_ ?_ ?_
          rotate_left; rotate_left
          · intro w' hS; go_simp; with_reducible rfl
          · simp only [Act.put, List.setIfInBounds_toArray, List.set_cons_zero, List.set_cons_succ]; rfl
          refine seq_take (v := ?_) (a' := ?_) (some 48) rfl rfl (by rfl) ?_ ?_ ?_
          rotate_left; rotate_left
          · intro w' hS; go_simp; with_reducible rfl
          · simp only [Act.put, List.setIfInBounds_toArray, List.set_cons_zero, List.set_cons_succ]; rfl
          refine seq_take (v := ?_) (a' := ?_) (some 49) rfl rfl (by rfl) ?_ ?_ ?_
          rotate_left; rotate_left
          · intro w' hS; go_simp; with_reducible rfl
          · simp only [Act.put, List.setIfInBounds_toArray, List.set_cons_zero, List.set_cons_succ]; rfl
          refine seq_skip (a' := ?_) (some 50) rfl rfl (by rfl) ?_ ?_
          rotate_left
          · simp only [Act.put, List.setIfInBounds_toArray, List.set_cons_zero, List.set_cons_succ]; rfl
          refine seq_skip (a' := ?_) (some 51) rfl rfl (by rfl) ?_ ?_
          rotate_left
          · simp only [Act.put, List.setIfInBounds_toArray, List.set_cons_zero, List.set_cons_succ]; rfl
          refine seq_skip (a' := ?_) (some 52) rfl rfl (by rfl) ?_ ?_
          rotate_left
          · simp only [Act.put, List.setIfInBounds_toArray, List.set_cons_zero, List.set_cons_succ]; rfl
          refine seq_skip (a' := ?_) (some 53) rfl rfl (by rfl) ?_ ?_
          rotate_left
          · simp only [Act.put, List.setIfInBounds_toArray, List.set_cons_zero, List.set_cons_succ]; rfl
          refine seq_skip (a' := ?_) (some 54) rfl rfl (by rfl) ?_ ?_
          rotate_left
          · simp only [Act.put, List.setIfInBounds_toArray, List.set_cons_zero, List.set_cons_succ]; rfl
          refine seq_skip (a' := ?_) (some 55) rfl rfl (by rfl) ?_ ?_
          rotate_left
          · simp only [Act.put, List.setIfInBounds_toArray, List.set_cons_zero, List.set_cons_succ]; rfl
          refine seq_skip (a' := ?_) (some 56) rfl rfl (by rfl) ?_ ?_
          rotate_left
          · simp only [Act.put, List.setIfInBounds_toArray, List.set_cons_zero, List.set_cons_succ]; rfl
          refine seq_skip (a' := ?_) (some 57) rfl rfl (by rfl) ?_ ?_
          rotate_left
          · simp only [Act.put, List.setIfInBounds_toArray, List.set_cons_zero, List.set_cons_succ]; rfl
          refine seq_skip (a' := ?_) (some 58) rfl rfl (by rfl) ?_ ?_
          rotate_left
          · simp only [Act.put, List.setIfInBounds_toArray, List.set_cons_zero, List.set_cons_succ]; rfl
          refine seq_take (v := ?_) (a' := ?_) (some 59) rfl rfl (by rfl) ?_ ?_ ?_
          rotate_left; rotate_left
          · intro w' hS; go_simp; with_reducible rfl
          · simp only [Act.put, List.setIfInBounds_toArray, List.set_cons_zero, List.set_cons_succ]; rfl
          refine seq_done ?_
          go_wp2_with fail
          go_ret
          exact ⟨ret_bool HN.out.symm, bl_from Hw.out (bl_next HB0.out hB)⟩
        | true =>
          by_cases hv : x.ver ≤ vr
          · have hvI : ¬ vr < x.ver := by omega
            have hvD : decide (vr < x.ver) = false := decide_eq_false hvI
            have HPT := Lib.hid (show relP vr x = true by rw [HP.out, decide_eq_true hv]; rfl)
            by_cases h0 : k = 0
            · subst h0
              simp only [Nat.zero_mul, Nat.add_zero, Nat.zero_add] at d0 d1 d2 d3 d4 d5 d6 d7
              have HOK := Lib.hid (show okL (relP vr) kTO ((oxs xs).take 1) = true by have := STEP.out; rw [HPT.out] at this; simpa using this)
              go_upto_region 14 with (go_at_call 61; refine HC.out.mono ?_; rintro e w' ⟨rfl, hb⟩; rw [HRX.out]; have hB := bl_next hB hb; clear hb)
              have hB := hB.drew
              refine region_seq (fun w' => Below V.heap.size V w') [(0, true), (1, true), (2, true), (3, true), (4, true), (5, true), (6, true), (7, true), (8, true), (9, true), (10, true), (11, true), (12, true)] (by kernel_rfl) (by kernel_rfl) (fun _ _ _ _ h => h) hB ?_
              try generalize World.drew _ = wS at hB ⊢
              refine seq_take (v := ?_) (a' := ?_) (some 47) rfl rfl (by rfl) ?_ ?_ ?_
              rotate_left; rotate_left
              · intro w' hS; go_simp; with_reducible rfl
              · simp only [Act.put, List.setIfInBounds_toArray, List.set_cons_zero, List.set_cons_succ]; rfl
              refine seq_take (v := ?_) (a' := ?_) (some 48) rfl rfl (by rfl) ?_ ?_ ?_
              rotate_left; rotate_left
              · intro w' hS; go_simp; with_reducible rfl
              · simp only [Act.put, List.setIfInBounds_toArray, List.set_cons_zero, List.set_cons_succ]; rfl
              refine seq_take (v := ?_) (a' := ?_) (some 49) rfl rfl (by rfl) ?_ ?_ ?_
              rotate_left; rotate_left
              · intro w' hS; go_simp; with_reducible rfl
              · simp only [Act.put, List.setIfInBounds_toArray, List.set_cons_zero, List.set_cons_succ]; rfl
              refine seq_take (v := ?_) (a' := ?_) (some 50) rfl rfl (by rfl) ?_ ?_ ?_
              rotate_left; rotate_left
              · intro w' hS; go_simp; with_reducible rfl
              · simp only [Act.put, List.setIfInBounds_toArray, List.set_cons_zero, List.set_cons_succ]; rfl
              refine seq_take (v := ?_) (a' := ?_) (some 51) rfl rfl (by rfl) ?_ ?_ ?_
              rotate_left; rotate_left
              · intro w' hS; have a9 := cb hS k0_9; have a10 := cb hS k0_10; have a3 := cb hS d3; go_simp; with_reducible rfl
              · simp only [Act.put, List.setIfInBounds_toArray, List.set_cons_zero, List.set_cons_succ]; rfl
              refine seq_take (v := ?_) (a' := ?_) (some 52) rfl rfl (by rfl) ?_ ?_ ?_
              rotate_left; rotate_left
              · intro w' hS; go_simp; with_reducible rfl
              · simp only [Act.put, List.setIfInBounds_toArray, List.set_cons_zero, List.set_cons_succ]; rfl
              refine seq_take (v := ?_) (a' := ?_) (some 53) rfl rfl (by rfl) ?_ ?_ ?_
              rotate_left; rotate_left
              · intro w' hS; go_simp; with_reducible rfl
              · simp only [Act.put, List.setIfInBounds_toArray, List.set_cons_zero, List.set_cons_succ]; rfl
              refine seq_take (v := ?_) (a' := ?_) (some 54) rfl rfl (by rfl) ?_ ?_ ?_
              rotate_left; rotate_left
              · intro w' hS; go_simp; with_reducible rfl
              · simp only [Act.put, List.setIfInBounds_toArray, List.set_cons_zero, List.set_cons_succ]; rfl
              refine seq_take (v := ?_) (a' := ?_) (some 55) rfl rfl (by rfl) ?_ ?_ ?_
              rotate_left; rotate_left
              · intro w' hS; have a9 := cb hS k0_9; have a10 := cb hS k0_10; have a3 := cb hS d3; go_simp; with_reducible rfl
              · simp only [Act.put, List.setIfInBounds_toArray, List.set_cons_zero, List.set_cons_succ]; rfl
              refine seq_take (v := ?_) (a' := ?_) (some 56) rfl rfl (by rfl) ?_ ?_ ?_
              rotate_left; rotate_left
              · intro w' hS; go_simp; with_reducible rfl
              · simp only [Act.put, List.setIfInBounds_toArray, List.set_cons_zero, List.set_cons_succ]; rfl
              refine seq_take (v := ?_) (a' := ?_) (some 57) rfl rfl (by rfl) ?_ ?_ ?_
              rotate_left; rotate_left
              · intro w' hS; have a9 := cb hS k0_9; have a10 := cb hS k0_10; have a3 := cb hS d3; go_simp; with_reducible rfl
              · simp only [Act.put, List.setIfInBounds_toArray, List.set_cons_zero, List.set_cons_succ]; rfl
              refine seq_take (v := ?_) (a' := ?_) (some 58) rfl rfl (by rfl) ?_ ?_ ?_
              rotate_left; rotate_left
              · intro w' hS; go_simp; with_reducible rfl
              · simp only [Act.put, List.setIfInBounds_toArray, List.set_cons_zero, List.set_cons_succ]; rfl
              refine seq_take (v := ?_) (a' := ?_) (some 59) rfl rfl (by rfl) ?_ ?_ ?_
              rotate_left; rotate_left
              · intro w' hS; go_simp; with_reducible rfl
              · simp only [Act.put, List.setIfInBounds_toArray, List.set_cons_zero, List.set_cons_succ]; rfl
              refine seq_done ?_
              go_wp2_with fail
              go_roundw
              case rel => exact ⟨1, rfl, by omega, HOK, bl_next HB0.out hB⟩
              case measure => simp [intOf]; omega
            · obtain ⟨y, hy, zy, qy⟩ := PREV.out (by omega)
              obtain ⟨y, sy⟩ := y
              have hk0 : (0 : Int) < k := by omega
              have hk1 : ((k : Int) - 1).toNat = k - 1 := by omega
              have hk2 : (0 : Int) ≤ (k : Int) - 1 := by omega
              have hk3 : (k : Int) - 1 < xs.length := by omega
              have hk4 : (1 : Int) ≤ k := by omega
              have hk5 : 0 < k := by omega
              have hk7 : IntKind.i64.wrap ((k : Int) - 1) = (k : Int) - 1 := IntWalk.i64_in _ (by omega)
              have hzy1 := zy.1.1; have hzy2 := zy.1.2.1; have hzy3 := zy.1.2.2
              have e0 := qy.c0; have e1 := qy.c1; have e2 := qy.c2
              simp only at e0 e1 e2 hy hzy1 hzy2 hzy3
              have ST := Lib.hid (show okL (relP vr) kTO ((oxs xs).take (k + 1)) = ltB (kTO y) (kTO x) by have := STEP.out; rw [HPT.out, dif_pos (by omega), hy] at this; simpa using this)
              clear hy zy qy
              go_upto_region 14 with (go_at_call 61; refine HC.out.mono ?_; rintro e w' ⟨rfl, hb⟩; rw [HRX.out]; have hB := bl_next hB hb; clear hb)
              have hB := hB.drew
              refine region_seq (fun w' => Below V.heap.size V w') [(0, true), (1, true), (2, true), (3, true), (4, true), (5, true), (6, true), (7, true), (8, true), (9, true), (10, true), (11, true), (12, true)] (by kernel_rfl) (by kernel_rfl) (fun _ _ _ _ h => h) hB ?_
              try generalize World.drew _ = wS at hB ⊢
              refine seq_take (v := ?_) (a' := ?_) (some 47) rfl rfl (by rfl) ?_ ?_ ?_
              rotate_left; rotate_left
              · intro w' hS; go_simp; with_reducible rfl
              · simp only [Act.put, List.setIfInBounds_toArray, List.set_cons_zero, List.set_cons_succ]; rfl
              refine seq_take (v := ?_) (a' := ?_) (some 48) rfl rfl (by rfl) ?_ ?_ ?_
              rotate_left; rotate_left
              · intro w' hS; go_simp; with_reducible rfl
              · simp only [Act.put, List.setIfInBounds_toArray, List.set_cons_zero, List.set_cons_succ]; rfl
              refine seq_take (v := ?_) (a' := ?_) (some 49) rfl rfl (by rfl) ?_ ?_ ?_
              rotate_left; rotate_left
              · intro w' hS; go_simp; with_reducible rfl
              · simp only [Act.put, List.setIfInBounds_toArray, List.set_cons_zero, List.set_cons_succ]; rfl
              refine seq_take (v := ?_) (a' := ?_) (some 50) rfl rfl (by rfl) ?_ ?_ ?_
              rotate_left; rotate_left
              · intro w' hS; go_simp; with_reducible rfl
              · simp only [Act.put, List.setIfInBounds_toArray, List.set_cons_zero, List.set_cons_succ]; rfl
              refine seq_take (v := ?_) (a' := ?_) (some 51) rfl rfl (by rfl) ?_ ?_ ?_
              rotate_left; rotate_left
              · intro w' hS; have a9 := cb hS k0_9; have a10 := cb hS k0_10; have a3 := cb hS d3; go_simp; with_reducible rfl
              · simp only [Act.put, List.setIfInBounds_toArray, List.set_cons_zero, List.set_cons_succ]; rfl
              refine seq_take (v := ?_) (a' := ?_) (some 52) rfl rfl (by rfl) ?_ ?_ ?_
              rotate_left; rotate_left
              · intro w' hS; go_simp; with_reducible rfl
              · simp only [Act.put, List.setIfInBounds_toArray, List.set_cons_zero, List.set_cons_succ]; rfl
              refine seq_take (v := ?_) (a' := ?_) (some 53) rfl rfl (by rfl) ?_ ?_ ?_
              rotate_left; rotate_left
              · intro w' hS; go_simp; with_reducible rfl
              · simp only [Act.put, List.setIfInBounds_toArray, List.set_cons_zero, List.set_cons_succ]; rfl
              refine seq_take (v := ?_) (a' := ?_) (some 54) rfl rfl (by rfl) ?_ ?_ ?_
              rotate_left; rotate_left
              · intro w' hS; go_simp; with_reducible rfl
              · simp only [Act.put, List.setIfInBounds_toArray, List.set_cons_zero, List.set_cons_succ]; rfl
              refine seq_take (v := ?_) (a' := ?_) (some 55) rfl rfl (by rfl) ?_ ?_ ?_
              rotate_left; rotate_left
              · intro w' hS; have a9 := cb hS k0_9; have a10 := cb hS k0_10; have a3 := cb hS d3; go_simp; with_reducible rfl
              · simp only [Act.put, List.setIfInBounds_toArray, List.set_cons_zero, List.set_cons_succ]; rfl
              refine seq_take (v := ?_) (a' := ?_) (some 56) rfl rfl (by rfl) ?_ ?_ ?_
              rotate_left; rotate_left
              · intro w' hS; go_simp; with_reducible rfl
              · simp only [Act.put, List.setIfInBounds_toArray, List.set_cons_zero, List.set_cons_succ]; rfl
              refine seq_take (v := ?_) (a' := ?_) (some 57) rfl rfl (by rfl) ?_ ?_ ?_
              rotate_left; rotate_left
              · intro w' hS; have a9 := cb hS k0_9; have a10 := cb hS k0_10; have a3 := cb hS d3; go_simp; with_reducible rfl
              · simp only [Act.put, List.setIfInBounds_toArray, List.set_cons_zero, List.set_cons_succ]; rfl
              refine seq_take (v := ?_) (a' := ?_) (some 58) rfl rfl (by rfl) ?_ ?_ ?_
              rotate_left; rotate_left
              · intro w' hS; go_simp; with_reducible rfl
              · simp only [Act.put, List.setIfInBounds_toArray, List.set_cons_zero, List.set_cons_succ]; rfl
              refine seq_take (v := ?_) (a' := ?_) (some 59) rfl rfl (by rfl) ?_ ?_ ?_
              rotate_left; rotate_left
              · intro w' hS; go_simp; with_reducible rfl
              · simp only [Act.put, List.setIfInBounds_toArray, List.set_cons_zero, List.set_cons_succ]; rfl
              refine seq_done ?_
              cases hlt : ltB (kTO y) (kTO x) with
              | true =>
                have HLT := Lib.hid (show Op.bytesLess (keyText y.key.kind y.key.space y.key.name).toList (keyText x.key.kind x.key.space x.key.name).toList = true from hlt)
                have HOK := Lib.hid (ST.out.trans hlt)
                clear hlt
                go_upto_region 17 with fail
                have hB := hB.drew
                refine region_seq (fun w' => Below V.heap.size V w') [(0, true), (1, true), (2, true), (3, true), (4, true), (5, true), (6, true), (7, true), (8, true), (9, true), (10, true), (11, true), (12, true), (13, false), (14, true)] (by kernel_rfl) (by kernel_rfl) (fun _ _ _ _ h => h) hB ?_
                try generalize World.drew _ = wS at hB ⊢
                refine seq_take (v := ?_) (a' := ?_) (some 62) rfl rfl (by rfl) ?_ ?_ ?_
                rotate_left; rotate_left
                · intro w' hS; go_simp; with_reducible rfl
                · simp only [Act.put, List.setIfInBounds_toArray, List.set_cons_zero, List.set_cons_succ]; rfl
                refine seq_take (v := ?_) (a' := ?_) (some 63) rfl rfl (by rfl) ?_ ?_ ?_
                rotate_left; rotate_left
                · intro w' hS; have a10 := cb hS k0_10; have b0 := cb hS d0; have b1 := cb hS d1; have b2 := cb hS d2; have a0 := cb hS e0; have a1 := cb hS e1; have a2 := cb hS e2; go_simp; with_reducible rfl
                · simp only [Act.put, List.setIfInBounds_toArray, List.set_cons_zero, List.set_cons_succ]; rfl
                refine seq_take (v := ?_) (a' := ?_) (some 64) rfl rfl (by rfl) ?_ ?_ ?_
                rotate_left; rotate_left
                · intro w' hS; go_simp; with_reducible rfl
                · simp only [Act.put, List.setIfInBounds_toArray, List.set_cons_zero, List.set_cons_succ]; rfl
                refine seq_take (v := ?_) (a' := ?_) (some 65) rfl rfl (by rfl) ?_ ?_ ?_
                rotate_left; rotate_left
                · intro w' hS; go_simp; with_reducible rfl
                · simp only [Act.put, List.setIfInBounds_toArray, List.set_cons_zero, List.set_cons_succ]; rfl
                refine seq_take (v := ?_) (a' := ?_) (some 66) rfl rfl (by rfl) ?_ ?_ ?_
                rotate_left; rotate_left
                · intro w' hS; go_simp; with_reducible rfl
                · simp only [Act.put, List.setIfInBounds_toArray, List.set_cons_zero, List.set_cons_succ]; rfl
                refine seq_take (v := ?_) (a' := ?_) (some 67) rfl rfl (by rfl) ?_ ?_ ?_
                rotate_left; rotate_left
                · intro w' hS; go_simp; with_reducible rfl
                · simp only [Act.put, List.setIfInBounds_toArray, List.set_cons_zero, List.set_cons_succ]; rfl
                refine seq_take (v := ?_) (a' := ?_) (some 68) rfl rfl (by rfl) ?_ ?_ ?_
                rotate_left; rotate_left
                · intro w' hS; have a10 := cb hS k0_10; have b0 := cb hS d0; have b1 := cb hS d1; have b2 := cb hS d2; have a0 := cb hS e0; have a1 := cb hS e1; have a2 := cb hS e2; go_simp; with_reducible rfl
                · simp only [Act.put, List.setIfInBounds_toArray, List.set_cons_zero, List.set_cons_succ]; rfl
                refine seq_take (v := ?_) (a' := ?_) (some 69) rfl rfl (by rfl) ?_ ?_ ?_
                rotate_left; rotate_left
                · intro w' hS; go_simp; with_reducible rfl
                · simp only [Act.put, List.setIfInBounds_toArray, List.set_cons_zero, List.set_cons_succ]; rfl
                refine seq_take (v := ?_) (a' := ?_) (some 70) rfl rfl (by rfl) ?_ ?_ ?_
                rotate_left; rotate_left
                · intro w' hS; have a10 := cb hS k0_10; have b0 := cb hS d0; have b1 := cb hS d1; have b2 := cb hS d2; have a0 := cb hS e0; have a1 := cb hS e1; have a2 := cb hS e2; go_simp; with_reducible rfl
                · simp only [Act.put, List.setIfInBounds_toArray, List.set_cons_zero, List.set_cons_succ]; rfl
                refine seq_take (v := ?_) (a' := ?_) (some 71) rfl rfl (by rfl) ?_ ?_ ?_
                rotate_left; rotate_left
                · intro w' hS; go_simp; with_reducible rfl
                · simp only [Act.put, List.setIfInBounds_toArray, List.set_cons_zero, List.set_cons_succ]; rfl
                refine seq_take (v := ?_) (a' := ?_) (some 72) rfl rfl (by rfl) ?_ ?_ ?_
                rotate_left; rotate_left
                · intro w' hS; go_simp; with_reducible rfl
                · simp only [Act.put, List.setIfInBounds_toArray, List.set_cons_zero, List.set_cons_succ]; rfl
                refine seq_take (v := ?_) (a' := ?_) (some 73) rfl rfl (by rfl) ?_ ?_ ?_
                rotate_left; rotate_left
                · intro w' hS; go_simp; with_reducible rfl
                · simp only [Act.put, List.setIfInBounds_toArray, List.set_cons_zero, List.set_cons_succ]; rfl
                refine seq_take (v := ?_) (a' := ?_) (some 74) rfl rfl (by rfl) ?_ ?_ ?_
                rotate_left; rotate_left
                · intro w' hS; have a10 := cb hS k0_10; have b0 := cb hS d0; have b1 := cb hS d1; have b2 := cb hS d2; have a0 := cb hS e0; have a1 := cb hS e1; have a2 := cb hS e2; go_simp; with_reducible rfl
                · simp only [Act.put, List.setIfInBounds_toArray, List.set_cons_zero, List.set_cons_succ]; rfl
                refine seq_call (args := ?_) Try.func59 (by kernel_rfl) rfl (some 75) rfl rfl (by rfl) rfl ?_ ?_
                rotate_left
                · simp only [List.map_toArray, List.map_cons, List.map_nil]; go_simp; rfl
                with_reducible refine (refLess_calls _ _ _ _ _ _ _ (by omega) (by omega)).mono ?_
                rintro e w' ⟨rfl, hb⟩
                rw [HLT.out]
                refine ⟨_, rfl, bl_next (by repeat (first | with_reducible exact hB | refine Below.alloc ?_ (by have := hB.size; simp; omega) _ | refine bl_dN ?_ _ | refine Below.drew ?_ | refine Below.setCell ?_ (by have := hB.size; simp; omega) _)) hb, ?_⟩
                have hB := bl_next (by repeat (first | with_reducible exact hB | refine Below.alloc ?_ (by have := hB.size; simp; omega) _ | refine bl_dN ?_ _ | refine Below.drew ?_ | refine Below.setCell ?_ (by have := hB.size; simp; omega) _)) hb; clear hb
                simp only [Act.put, List.setIfInBounds_toArray, List.set_cons_zero, List.set_cons_succ]
                refine seq_take (v := ?_) (a' := ?_) (some 6) rfl rfl (by rfl) ?_ ?_ ?_
                rotate_left; rotate_left
                · intro w' hS; go_simp; with_reducible rfl
                · simp only [Act.put, List.setIfInBounds_toArray, List.set_cons_zero, List.set_cons_succ]; rfl
                refine seq_done ?_
                go_wp2_with fail
                go_roundw
                case rel => exact ⟨k + 1, by simp, by omega, HOK, bl_next HB0.out hB⟩
                case measure => simp [intOf]; omega
              | false =>
                have HLT := Lib.hid (show Op.bytesLess (keyText y.key.kind y.key.space y.key.name).toList (keyText x.key.kind x.key.space x.key.name).toList = false from hlt)
                have HN := Lib.hid (NOT.out (ST.out.trans hlt))
                clear hlt
                go_upto_region 17 with fail
                have hB := hB.drew
                refine region_seq (fun w' => Below V.heap.size V w') [(0, true), (1, true), (2, true), (3, true), (4, true), (5, true), (6, true), (7, true), (8, true), (9, true), (10, true), (11, true), (12, true), (13, false), (14, true)] (by kernel_rfl) (by kernel_rfl) (fun _ _ _ _ h => h) hB ?_
                try generalize World.drew _ = wS at hB ⊢
                refine seq_take (v := ?_) (a' := ?_) (some 62) rfl rfl (by rfl) ?_ ?_ ?_
                rotate_left; rotate_left
                · intro w' hS; go_simp; with_reducible rfl
                · simp only [Act.put, List.setIfInBounds_toArray, List.set_cons_zero, List.set_cons_succ]; rfl
                refine seq_take (v := ?_) (a' := ?_) (some 63) rfl rfl (by rfl) ?_ ?_ ?_
                rotate_left; rotate_left
                · intro w' hS; have a10 := cb hS k0_10; have b0 := cb hS d0; have b1 := cb hS d1; have b2 := cb hS d2; have a0 := cb hS e0; have a1 := cb hS e1; have a2 := cb hS e2; go_simp; with_reducible rfl
                · simp only [Act.put, List.setIfInBounds_toArray, List.set_cons_zero, List.set_cons_succ]; rfl
                refine seq_take (v := ?_) (a' := ?_) (some 64) rfl rfl (by rfl) ?_ ?_ ?_
                rotate_left; rotate_left
                · intro w' hS; go_simp; with_reducible rfl
                · simp only [Act.put, List.setIfInBounds_toArray, List.set_cons_zero, List.set_cons_succ]; rfl
                refine seq_take (v := ?_) (a' := ?_) (some 65) rfl rfl (by rfl) ?_ ?_ ?_
                rotate_left; rotate_left
                · intro w' hS; go_simp; with_reducible rfl
                · simp only [Act.put, List.setIfInBounds_toArray, List.set_cons_zero, List.set_cons_succ]; rfl
                refine seq_take (v := ?_) (a' := ?_) (some 66) rfl rfl (by rfl) ?_ ?_ ?_
                rotate_left; rotate_left
                · intro w' hS; go_simp; with_reducible rfl
                · simp only [Act.put, List.setIfInBounds_toArray, List.set_cons_zero, List.set_cons_succ]; rfl
                refine seq_take (v := ?_) (a' := ?_) (some 67) rfl rfl (by rfl) ?_ ?_ ?_
                rotate_left; rotate_left
                · intro w' hS; go_simp; with_reducible rfl
                · simp only [Act.put, List.setIfInBounds_toArray, List.set_cons_zero, List.set_cons_succ]; rfl
                refine seq_take (v := ?_) (a' := ?_) (some 68) rfl rfl (by rfl) ?_ ?_ ?_
                rotate_left; rotate_left
                · intro w' hS; have a10 := cb hS k0_10; have b0 := cb hS d0; have b1 := cb hS d1; have b2 := cb hS d2; have a0 := cb hS e0; have a1 := cb hS e1; have a2 := cb hS e2; go_simp; with_reducible rfl
                · simp only [Act.put, List.setIfInBounds_toArray, List.set_cons_zero, List.set_cons_succ]; rfl
                refine seq_take (v := ?_) (a' := ?_) (some 69) rfl rfl (by rfl) ?_ ?_ ?_
                rotate_left; rotate_left
                · intro w' hS; go_simp; with_reducible rfl
                · simp only [Act.put, List.setIfInBounds_toArray, List.set_cons_zero, List.set_cons_succ]; rfl
                refine seq_take (v := ?_) (a' := ?_) (some 70) rfl rfl (by rfl) ?_ ?_ ?_
                rotate_left; rotate_left
                · intro w' hS; have a10 := cb hS k0_10; have b0 := cb hS d0; have b1 := cb hS d1; have b2 := cb hS d2; have a0 := cb hS e0; have a1 := cb hS e1; have a2 := cb hS e2; go_simp; with_reducible rfl
                · simp only [Act.put, List.setIfInBounds_toArray, List.set_cons_zero, List.set_cons_succ]; rfl
                refine seq_take (v := ?_) (a' := ?_) (some 71) rfl rfl (by rfl) ?_ ?_ ?_
                rotate_left; rotate_left
                · intro w' hS; go_simp; with_reducible rfl
                · simp only [Act.put, List.setIfInBounds_toArray, List.set_cons_zero, List.set_cons_succ]; rfl
                refine seq_take (v := ?_) (a' := ?_) (some 72) rfl rfl (by rfl) ?_ ?_ ?_
                rotate_left; rotate_left
                · intro w' hS; go_simp; with_reducible rfl
                · simp only [Act.put, List.setIfInBounds_toArray, List.set_cons_zero, List.set_cons_succ]; rfl
                refine seq_take (v := ?_) (a' := ?_) (some 73) rfl rfl (by rfl) ?_ ?_ ?_
                rotate_left; rotate_left
                · intro w' hS; go_simp; with_reducible rfl
                · simp only [Act.put, List.setIfInBounds_toArray, List.set_cons_zero, List.set_cons_succ]; rfl
                refine seq_take (v := ?_) (a' := ?_) (some 74) rfl rfl (by rfl) ?_ ?_ ?_
                rotate_left; rotate_left
                · intro w' hS; have a10 := cb hS k0_10; have b0 := cb hS d0; have b1 := cb hS d1; have b2 := cb hS d2; have a0 := cb hS e0; have a1 := cb hS e1; have a2 := cb hS e2; go_simp; with_reducible rfl
                · simp only [Act.put, List.setIfInBounds_toArray, List.set_cons_zero, List.set_cons_succ]; rfl
                refine seq_call (args := ?_) Try.func59 (by kernel_rfl) rfl (some 75) rfl rfl (by rfl) rfl ?_ ?_
                rotate_left
                · simp only [List.map_toArray, List.map_cons, List.map_nil]; go_simp; rfl
                with_reducible refine (refLess_calls _ _ _ _ _ _ _ (by omega) (by omega)).mono ?_
                rintro e w' ⟨rfl, hb⟩
                rw [HLT.out]
                refine ⟨_, rfl, bl_next (by repeat (first | with_reducible exact hB | refine Below.alloc ?_ (by have := hB.size; simp; omega) _ | refine bl_dN ?_ _ | refine Below.drew ?_ | refine Below.setCell ?_ (by have := hB.size; simp; omega) _)) hb, ?_⟩
                have hB := bl_next (by repeat (first | with_reducible exact hB | refine Below.alloc ?_ (by have := hB.size; simp; omega) _ | refine bl_dN ?_ _ | refine Below.drew ?_ | refine Below.setCell ?_ (by have := hB.size; simp; omega) _)) hb; clear hb
                simp only [Act.put, List.setIfInBounds_toArray, List.set_cons_zero, List.set_cons_succ]
                refine seq_take (v := ?_) (a' := ?_) (some 6) rfl rfl (by rfl) ?_ ?_ ?_
                rotate_left; rotate_left
                · intro w' hS; go_simp; with_reducible rfl
                · simp only [Act.put, List.setIfInBounds_toArray, List.set_cons_zero, List.set_cons_succ]; rfl
                refine seq_done ?_
                go_wp2_with fail
                go_ret
                exact ⟨ret_bool HN.out.symm, bl_from Hw.out (bl_next HB0.out hB)⟩
          · have hvI : vr < x.ver := by omega
            have hvD : decide (vr < x.ver) = true := decide_eq_true hvI
            have HN := Lib.hid (NOT.out (by rw [STEP.out, HP.out, decide_eq_false hv]; rfl))
            go_upto_region 14 with (go_at_call 61; refine HC.out.mono ?_; rintro e w' ⟨rfl, hb⟩; rw [HRX.out]; have hB := bl_next hB hb; clear hb)
            have hB := hB.drew
            refine region_seq (fun w' => Below V.heap.size V w') [(0, true), (1, true), (2, true), (3, true), (4, true), (5, true), (6, true), (7, true), (8, true), (9, true), (10, true), (11, true), (12, true)] (by kernel_rfl) (by kernel_rfl) (fun _ _ _ _ h => h) hB ?_
            try generalize World.drew _ = wS at hB ⊢
            refine seq_take (v := ?_) (a' := ?_) (some 47) rfl rfl (by rfl) ?_ ?_ ?_
            rotate_left; rotate_left
            · intro w' hS; go_simp; with_reducible rfl
            · simp only [Act.put, List.setIfInBounds_toArray, List.set_cons_zero, List.set_cons_succ]; rfl
            refine seq_take (v := ?_) (a' := ?_) (some 48) rfl rfl (by rfl) ?_ ?_ ?_
            rotate_left; rotate_left
            · intro w' hS; go_simp; with_reducible rfl
            · simp only [Act.put, List.setIfInBounds_toArray, List.set_cons_zero, List.set_cons_succ]; rfl
            refine seq_take (v := ?_) (a' := ?_) (some 49) rfl rfl (by rfl) ?_ ?_ ?_
            rotate_left; rotate_left
            · intro w' hS; go_simp; with_reducible rfl
            · simp only [Act.put, List.setIfInBounds_toArray, List.set_cons_zero, List.set_cons_succ]; rfl
            refine seq_take (v := ?_) (a' := ?_) (some 50) rfl rfl (by rfl) ?_ ?_ ?_
            rotate_left; rotate_left
            · intro w' hS; go_simp; with_reducible rfl
            · simp only [Act.put, List.setIfInBounds_toArray, List.set_cons_zero, List.set_cons_succ]; rfl
            refine seq_take (v := ?_) (a' := ?_) (some 51) rfl rfl (by rfl) ?_ ?_ ?_
            rotate_left; rotate_left
            · intro w' hS; have a9 := cb hS k0_9; have a10 := cb hS k0_10; have a3 := cb hS d3; go_simp; with_reducible rfl
            · simp only [Act.put, List.setIfInBounds_toArray, List.set_cons_zero, List.set_cons_succ]; rfl
            refine seq_take (v := ?_) (a' := ?_) (some 52) rfl rfl (by rfl) ?_ ?_ ?_
            rotate_left; rotate_left
            · intro w' hS; go_simp; with_reducible rfl
            · simp only [Act.put, List.setIfInBounds_toArray, List.set_cons_zero, List.set_cons_succ]; rfl
            refine seq_take (v := ?_) (a' := ?_) (some 53) rfl rfl (by rfl) ?_ ?_ ?_
            rotate_left; rotate_left
            · intro w' hS; go_simp; with_reducible rfl
            · simp only [Act.put, List.setIfInBounds_toArray, List.set_cons_zero, List.set_cons_succ]; rfl
            refine seq_take (v := ?_) (a' := ?_) (some 54) rfl rfl (by rfl) ?_ ?_ ?_
            rotate_left; rotate_left
            · intro w' hS; go_simp; with_reducible rfl
            · simp only [Act.put, List.setIfInBounds_toArray, List.set_cons_zero, List.set_cons_succ]; rfl
            refine seq_take (v := ?_) (a' := ?_) (some 55) rfl rfl (by rfl) ?_ ?_ ?_
            rotate_left; rotate_left
            · intro w' hS; have a9 := cb hS k0_9; have a10 := cb hS k0_10; have a3 := cb hS d3; go_simp; with_reducible rfl
            · simp only [Act.put, List.setIfInBounds_toArray, List.set_cons_zero, List.set_cons_succ]; rfl
            refine seq_take (v := ?_) (a' := ?_) (some 56) rfl rfl (by rfl) ?_ ?_ ?_
            rotate_left; rotate_left
            · intro w' hS; go_simp; with_reducible rfl
            · simp only [Act.put, List.setIfInBounds_toArray, List.set_cons_zero, List.set_cons_succ]; rfl
            refine seq_take (v := ?_) (a' := ?_) (some 57) rfl rfl (by rfl) ?_ ?_ ?_
            rotate_left; rotate_left
            · intro w' hS; have a9 := cb hS k0_9; have a10 := cb hS k0_10; have a3 := cb hS d3; go_simp; with_reducible rfl
            · simp only [Act.put, List.setIfInBounds_toArray, List.set_cons_zero, List.set_cons_succ]; rfl
            refine seq_take (v := ?_) (a' := ?_) (some 58) rfl rfl (by rfl) ?_ ?_ ?_
            rotate_left; rotate_left
            · intro w' hS; go_simp; with_reducible rfl
            · simp only [Act.put, List.setIfInBounds_toArray, List.set_cons_zero, List.set_cons_succ]; rfl
            refine seq_take (v := ?_) (a' := ?_) (some 59) rfl rfl (by rfl) ?_ ?_ ?_
            rotate_left; rotate_left
            · intro w' hS; go_simp; with_reducible rfl
            · simp only [Act.put, List.setIfInBounds_toArray, List.set_cons_zero, List.set_cons_succ]; rfl
            refine seq_done ?_
            go_wp2_with fail
            go_ret
            exact ⟨ret_bool HN.out.symm, bl_from Hw.out (bl_next HB0.out hB)⟩
      · obtain rfl : k = xs.length := by omega
        have hT := HT.out
        rw [← HLN.out, List.take_length] at hT
        have HR2 := Lib.hid (show rightE ⟨2, o, vr, oxs xs⟩ = (decide (0 ≤ vr) && decide (xs.length ≤ 1000)) by rw [HR.out, hT]; simp)
        clear hT
        by_cases hv : 0 ≤ vr
        · by_cases hn : xs.length ≤ 1000
          · have hnI : (xs.length : Int) ≤ 1000 := by omega
            go_wp2
            go_ret
            exact ⟨ret_bool (by rw [HR2.out, decide_eq_true hv, decide_eq_true hn]; rfl), bl_from Hw.out hB⟩
          · have hnI : ¬ (xs.length : Int) ≤ 1000 := by omega
            go_wp2
            go_ret
            exact ⟨ret_bool (by rw [HR2.out, decide_eq_true hv, decide_eq_false hn]; rfl), bl_from Hw.out hB⟩
        · go_wp2
          go_ret
          exact ⟨ret_bool (by rw [HR2.out, decide_eq_false (p := 0 ≤ vr) (by omega)]; rfl), bl_from Hw.out hB⟩
  · have HR := Lib.hid (show rightE ⟨kd, o, vr, oxs xs⟩ = false by rw [HE.out, if_neg h0, if_neg h1, if_neg h2, if_neg h3])
    go_wp2
    go_ret
    exact ⟨ret_bool HR.out.symm, bl_from Hw.out hB⟩
end Go.Proofs.Ythhfcambdmdgfaa

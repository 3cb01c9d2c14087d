import Derived.Test.YthhfcambdmdgfaaEvb
namespace Go.Proofs.Ythhfcambdmdgfaa
open Go.RowKit Go.Maps
set_option linter.unusedVariables false
set_option linter.unusedSimpArgs false
def sameE (a b : EvD) : Bool := sameO a.obj b.obj && decide (a.objs = b.objs) && decide (a.kind = b.kind) && decide (a.ver = b.ver)
theorem sameE_refl (a : EvD) : sameE a a = true := by unfold sameE; simp [sameO_refl]
theorem sameE_eq {a b : EvD} (h : sameE a b = true) : a = b := by
  unfold sameE at h
  simp only [Bool.and_eq_true, decide_eq_true_eq] at h
  obtain ⟨⟨⟨h1, h2⟩, h3⟩, h4⟩ := h
  have := objD_ext h1
  cases a; cases b; simp_all
theorem ret_ver {a b c d : Int} (h1 : a = c) (h2 : b = d) : Ending.returned (.tuple #[.int .i64 a, .int .i64 b]) = .returned (.tuple #[.int .i64 c, .int .i64 d]) := by rw [h1, h2]
set_option maxRecDepth 100000 in
set_option maxHeartbeats 8000000 in
theorem revver_calls (w : World) (kd : Int) {o : ObjD} {sl : Value} (vr : Int) {ol : Value} {xs : List OX} (ho : ObjS w sl o) (hs : objSmall o) (hx : ObjsS w ol xs) (hxs : OSmall (oxs xs)) (hl : xs.length ≤ 1000000) :
    Calls Try.prog 15 #[evV kd o sl vr ol] w fun e w' => e = .returned (.tuple #[.int .i64 (verE ⟨kd, o, vr, oxs xs⟩).1, .int .i64 (verE ⟨kd, o, vr, oxs xs⟩).2]) ∧ Below w.heap.size w w' := by
  have HO := Lib.hid ho; have HX := Lib.hid hx; have HSM := Lib.hid hxs; have HS := Lib.hid hs
  obtain ⟨ao, co, rfl⟩ := ho.1.form
  obtain ⟨al, cl, rfl⟩ := hx.form
  have HC := Lib.hid (fun (U : World) (h : Below w.heap.size w U) => revright_calls U kd vr (HO.out.below h) HS.out (HX.out.below h) HSM.out hl)
  obtain ⟨rb, hrb⟩ : ∃ b, rightE ⟨kd, o, vr, oxs xs⟩ = b := ⟨_, rfl⟩
  have HRB := Lib.hid hrb
  have HV := Lib.hid (show verE ⟨kd, o, vr, oxs xs⟩ = if rb then (if kd = 0 ∨ kd = 1 then o.ver else vr, 0) else (0, 1) by rw [← hrb]; rfl)
  clear ho hx hxs hs hl hrb
  unfold evV at HC
  unfold evV
  go_enter Try.func15, Try.ntmps15
  go_upto_region 1 with fail
  first | with_reducible refine name_wp ?_ | with_reducible refine name_calls ?_
  intro W hWeq
  have g0 : W.heap[w.heap.size]? = some (.cells #[.int .i64 kd, .string o.key.kind, .string o.key.space, .string o.key.name, .int .i64 o.ver, .string o.cls, .bool o.term, .bool o.best, .slice ao o.charge.length co, .int .i64 vr, .slice al xs.length cl] 30) := by rw [hWeq]; repeat (first | (with_reducible exact blk_newAt _ _ (by simp)) | with_reducible refine blk_drew ?_ | with_reducible refine blk_dN ?_ _ | with_reducible refine blk_old ?_ _)
  have hw : Below w.heap.size w W := by rw [hWeq]; repeat (first | with_reducible exact Below.refl _ _ | with_reducible refine Below.drew ?_ | with_reducible refine bl_dN ?_ _ | with_reducible refine Below.alloc ?_ (by simp <;> omega) _)
  clear hWeq
  have hz : w.heap.size + 1 ≤ W.heap.size := by have := blk_lt g0; omega
  have c0_0 : W.cell? ⟨w.heap.size, 0, none⟩ = some (.int .i64 kd) := blk_cell g0 0
  have c0_1 : W.cell? ⟨w.heap.size, 1, none⟩ = some (.string o.key.kind) := blk_cell g0 1
  have c0_2 : W.cell? ⟨w.heap.size, 2, none⟩ = some (.string o.key.space) := blk_cell g0 2
  have c0_3 : W.cell? ⟨w.heap.size, 3, none⟩ = some (.string o.key.name) := blk_cell g0 3
  have c0_4 : W.cell? ⟨w.heap.size, 4, none⟩ = some (.int .i64 o.ver) := blk_cell g0 4
  have c0_5 : W.cell? ⟨w.heap.size, 5, none⟩ = some (.string o.cls) := blk_cell g0 5
  have c0_6 : W.cell? ⟨w.heap.size, 6, none⟩ = some (.bool o.term) := blk_cell g0 6
  have c0_7 : W.cell? ⟨w.heap.size, 7, none⟩ = some (.bool o.best) := blk_cell g0 7
  have c0_8 : W.cell? ⟨w.heap.size, 8, none⟩ = some (.slice ao o.charge.length co) := blk_cell g0 8
  have c0_9 : W.cell? ⟨w.heap.size, 9, none⟩ = some (.int .i64 vr) := blk_cell g0 9
  have c0_10 : W.cell? ⟨w.heap.size, 10, none⟩ = some (.slice al xs.length cl) := blk_cell g0 10
  have f0 : ∀ j, W.frozen? ⟨w.heap.size, j, none⟩ = false := blk_free g0
  have hB : Below W.heap.size W W := Below.refl _ _
  have G0 := Lib.hid g0; clear g0
  have F0 := Lib.hid f0; clear f0
  have Hw := Lib.hid hw; clear hw
  cases rb with
  | false =>
    go_wp2_with (go_at_call 22; refine (HC.out _ Hw.out).mono ?_; rintro e w' ⟨rfl, hb⟩; rw [HRB.out]; have hB := bl_next hB hb; clear hb)
    go_ret2
    exact ⟨ret_ver (by rw [HV.out]; rfl) (by rw [HV.out]; rfl), bl_from Hw.out hB⟩
  | true =>
    by_cases h0 : kd = 0
    · subst h0
      go_wp2_with (go_at_call 22; refine (HC.out _ Hw.out).mono ?_; rintro e w' ⟨rfl, hb⟩; rw [HRB.out]; have hB := bl_next hB hb; clear hb; have k0_0 := cb hB c0_0; have k0_1 := cb hB c0_1; have k0_2 := cb hB c0_2; have k0_3 := cb hB c0_3; have k0_4 := cb hB c0_4; have k0_5 := cb hB c0_5; have k0_6 := cb hB c0_6; have k0_7 := cb hB c0_7; have k0_8 := cb hB c0_8; have k0_9 := cb hB c0_9; have k0_10 := cb hB c0_10)
      go_ret2
      exact ⟨ret_ver (by rw [HV.out]; rfl) (by rw [HV.out]; rfl), bl_from Hw.out hB⟩
    · have b0 : (kd == 0) = false := by simpa using h0
      by_cases h1 : kd = 1
      · subst h1
        go_wp2_with (go_at_call 22; refine (HC.out _ Hw.out).mono ?_; rintro e w' ⟨rfl, hb⟩; rw [HRB.out]; have hB := bl_next hB hb; clear hb; have k0_0 := cb hB c0_0; have k0_1 := cb hB c0_1; have k0_2 := cb hB c0_2; have k0_3 := cb hB c0_3; have k0_4 := cb hB c0_4; have k0_5 := cb hB c0_5; have k0_6 := cb hB c0_6; have k0_7 := cb hB c0_7; have k0_8 := cb hB c0_8; have k0_9 := cb hB c0_9; have k0_10 := cb hB c0_10)
        go_ret2
        exact ⟨ret_ver (by rw [HV.out]; rfl) (by rw [HV.out]; rfl), bl_from Hw.out hB⟩
      · have b1 : (kd == 1) = false := by simpa using h1
        have HVV := Lib.hid (show verE ⟨kd, o, vr, oxs xs⟩ = (vr, 0) by rw [HV.out, if_pos rfl, if_neg (by omega)])
        go_wp2_with (go_at_call 22; refine (HC.out _ Hw.out).mono ?_; rintro e w' ⟨rfl, hb⟩; rw [HRB.out]; have hB := bl_next hB hb; clear hb; have k0_0 := cb hB c0_0; have k0_1 := cb hB c0_1; have k0_2 := cb hB c0_2; have k0_3 := cb hB c0_3; have k0_4 := cb hB c0_4; have k0_5 := cb hB c0_5; have k0_6 := cb hB c0_6; have k0_7 := cb hB c0_7; have k0_8 := cb hB c0_8; have k0_9 := cb hB c0_9; have k0_10 := cb hB c0_10)
        go_ret2
        exact ⟨ret_ver (by rw [HVV.out]) (by rw [HVV.out]), bl_from Hw.out hB⟩
set_option maxRecDepth 100000 in
set_option maxHeartbeats 8000000 in
theorem revsame_calls (w : World) (kd kd' : Int) {o o' : ObjD} {sl sl' : Value} (vr vr' : Int) {ol ol' : Value} {xs ys : List OX} (ho : ObjS w sl o) (hs : objSmall o) (hx : ObjsS w ol xs) (hxs : OSmall (oxs xs)) (hl : xs.length ≤ 1000000) (ho' : ObjS w sl' o') (hs' : objSmall o') (hx' : ObjsS w ol' ys) (hys : OSmall (oxs ys)) (hl' : ys.length ≤ 1000000) :
    Calls Try.prog 16 #[evV kd o sl vr ol, evV kd' o' sl' vr' ol'] w fun e w' => e = .returned (.bool (sameE ⟨kd, o, vr, oxs xs⟩ ⟨kd', o', vr', oxs ys⟩)) ∧ Below w.heap.size w w' := by
  have HO := Lib.hid ho; have HX := Lib.hid hx; have HSM := Lib.hid hxs; have HS := Lib.hid hs
  have HO' := Lib.hid ho'; have HX' := Lib.hid hx'; have HSM' := Lib.hid hys; have HS' := Lib.hid hs'
  have hch : o.charge.length ≤ 1000000 ∧ o'.charge.length ≤ 1000000 := by have := hs.2.2.1; have := hs'.2.2.1; omega
  obtain ⟨ao, co, rfl⟩ := ho.1.form
  obtain ⟨al, cl, rfl⟩ := hx.form
  obtain ⟨ao', co', rfl⟩ := ho'.1.form
  obtain ⟨al', cl', rfl⟩ := hx'.form
  have HC1 := Lib.hid (fun (U : World) (h : Below w.heap.size w U) => rosame_calls U (HO.out.below h) (HO'.out.below h) hch)
  have HC2 := Lib.hid (fun (U : World) (h : Below w.heap.size w U) => robjs_calls U (HX.out.below h) (HX'.out.below h) hl hl' HSM.out HSM'.out)
  obtain ⟨s1, hs1⟩ : ∃ b, sameO o o' = b := ⟨_, rfl⟩
  obtain ⟨s2, hs2⟩ : ∃ b, decide (oxs xs = oxs ys) = b := ⟨_, rfl⟩
  have HE := Lib.hid (show sameE ⟨kd, o, vr, oxs xs⟩ ⟨kd', o', vr', oxs ys⟩ = (s1 && s2 && decide (kd = kd') && decide (vr = vr')) by rw [← hs1, ← hs2]; rfl)
  have HS1 := Lib.hid hs1; have HS2 := Lib.hid hs2
  clear ho hx hxs hs hl ho' hx' hys hs' hl' hch hs1 hs2
  unfold objV at HC1
  unfold evV
  go_enter Try.func16, Try.ntmps16
  go_upto_region 1 with fail
  first | with_reducible refine name_wp ?_ | with_reducible refine name_calls ?_
  intro W hWeq
  have g0 : W.heap[w.heap.size]? = some (.cells #[.int .i64 kd, .string o.key.kind, .string o.key.space, .string o.key.name, .int .i64 o.ver, .string o.cls, .bool o.term, .bool o.best, .slice ao o.charge.length co, .int .i64 vr, .slice al xs.length cl] 30) := by rw [hWeq]; repeat (first | (with_reducible exact blk_newAt _ _ (by simp)) | with_reducible refine blk_drew ?_ | with_reducible refine blk_dN ?_ _ | with_reducible refine blk_old ?_ _)
  have g1 : W.heap[w.heap.size + 1]? = some (.cells #[.int .i64 kd', .string o'.key.kind, .string o'.key.space, .string o'.key.name, .int .i64 o'.ver, .string o'.cls, .bool o'.term, .bool o'.best, .slice ao' o'.charge.length co', .int .i64 vr', .slice al' ys.length cl'] 30) := by rw [hWeq]; repeat (first | (with_reducible exact blk_newAt _ _ (by simp)) | with_reducible refine blk_drew ?_ | with_reducible refine blk_dN ?_ _ | with_reducible refine blk_old ?_ _)
  have hw : Below w.heap.size w W := by rw [hWeq]; repeat (first | with_reducible exact Below.refl _ _ | with_reducible refine Below.drew ?_ | with_reducible refine bl_dN ?_ _ | with_reducible refine Below.alloc ?_ (by simp <;> omega) _)
  clear hWeq
  have hz : w.heap.size + 2 ≤ W.heap.size := by have := blk_lt g1; omega
  have c0_0 : W.cell? ⟨w.heap.size, 0, none⟩ = some (.int .i64 kd) := blk_cell g0 0
  have c0_1 : W.cell? ⟨w.heap.size, 1, none⟩ = some (.string o.key.kind) := blk_cell g0 1
  have c0_2 : W.cell? ⟨w.heap.size, 2, none⟩ = some (.string o.key.space) := blk_cell g0 2
  have c0_3 : W.cell? ⟨w.heap.size, 3, none⟩ = some (.string o.key.name) := blk_cell g0 3
  have c0_4 : W.cell? ⟨w.heap.size, 4, none⟩ = some (.int .i64 o.ver) := blk_cell g0 4
  have c0_5 : W.cell? ⟨w.heap.size, 5, none⟩ = some (.string o.cls) := blk_cell g0 5
  have c0_6 : W.cell? ⟨w.heap.size, 6, none⟩ = some (.bool o.term) := blk_cell g0 6
  have c0_7 : W.cell? ⟨w.heap.size, 7, none⟩ = some (.bool o.best) := blk_cell g0 7
  have c0_8 : W.cell? ⟨w.heap.size, 8, none⟩ = some (.slice ao o.charge.length co) := blk_cell g0 8
  have c0_9 : W.cell? ⟨w.heap.size, 9, none⟩ = some (.int .i64 vr) := blk_cell g0 9
  have c0_10 : W.cell? ⟨w.heap.size, 10, none⟩ = some (.slice al xs.length cl) := blk_cell g0 10
  have f0 : ∀ j, W.frozen? ⟨w.heap.size, j, none⟩ = false := blk_free g0
  have c1_0 : W.cell? ⟨w.heap.size + 1, 0, none⟩ = some (.int .i64 kd') := blk_cell g1 0
  have c1_1 : W.cell? ⟨w.heap.size + 1, 1, none⟩ = some (.string o'.key.kind) := blk_cell g1 1
  have c1_2 : W.cell? ⟨w.heap.size + 1, 2, none⟩ = some (.string o'.key.space) := blk_cell g1 2
  have c1_3 : W.cell? ⟨w.heap.size + 1, 3, none⟩ = some (.string o'.key.name) := blk_cell g1 3
  have c1_4 : W.cell? ⟨w.heap.size + 1, 4, none⟩ = some (.int .i64 o'.ver) := blk_cell g1 4
  have c1_5 : W.cell? ⟨w.heap.size + 1, 5, none⟩ = some (.string o'.cls) := blk_cell g1 5
  have c1_6 : W.cell? ⟨w.heap.size + 1, 6, none⟩ = some (.bool o'.term) := blk_cell g1 6
  have c1_7 : W.cell? ⟨w.heap.size + 1, 7, none⟩ = some (.bool o'.best) := blk_cell g1 7
  have c1_8 : W.cell? ⟨w.heap.size + 1, 8, none⟩ = some (.slice ao' o'.charge.length co') := blk_cell g1 8
  have c1_9 : W.cell? ⟨w.heap.size + 1, 9, none⟩ = some (.int .i64 vr') := blk_cell g1 9
  have c1_10 : W.cell? ⟨w.heap.size + 1, 10, none⟩ = some (.slice al' ys.length cl') := blk_cell g1 10
  have f1 : ∀ j, W.frozen? ⟨w.heap.size + 1, j, none⟩ = false := blk_free g1
  have hB : Below W.heap.size W W := Below.refl _ _
  have G0 := Lib.hid g0; clear g0
  have F0 := Lib.hid f0; clear f0
  have G1 := Lib.hid g1; clear g1
  have F1 := Lib.hid f1; clear f1
  have Hw := Lib.hid hw; clear hw
  go_upto_region 3 with (first | (go_at_call 24; ((with_reducible refine (HC1.out _ Hw.out).mono ?_); rintro e w' ⟨rfl, hb⟩; rw [HS1.out]; have hB := bl_next hB hb; clear hb; have k0_0 := cb hB c0_0; have k0_1 := cb hB c0_1; have k0_2 := cb hB c0_2; have k0_3 := cb hB c0_3; have k0_4 := cb hB c0_4; have k0_5 := cb hB c0_5; have k0_6 := cb hB c0_6; have k0_7 := cb hB c0_7; have k0_8 := cb hB c0_8; have k0_9 := cb hB c0_9; have k0_10 := cb hB c0_10; have k1_0 := cb hB c1_0; have k1_1 := cb hB c1_1; have k1_2 := cb hB c1_2; have k1_3 := cb hB c1_3; have k1_4 := cb hB c1_4; have k1_5 := cb hB c1_5; have k1_6 := cb hB c1_6; have k1_7 := cb hB c1_7; have k1_8 := cb hB c1_8; have k1_9 := cb hB c1_9; have k1_10 := cb hB c1_10)) | (go_at_call 18; ((with_reducible refine (HC2.out _ (bl_from Hw.out hB)).mono ?_); rintro e w' ⟨rfl, hb⟩; rw [HS2.out]; have hB := bl_next hB hb; have k0_0 := cb hb k0_0; have k0_1 := cb hb k0_1; have k0_2 := cb hb k0_2; have k0_3 := cb hb k0_3; have k0_4 := cb hb k0_4; have k0_5 := cb hb k0_5; have k0_6 := cb hb k0_6; have k0_7 := cb hb k0_7; have k0_8 := cb hb k0_8; have k0_9 := cb hb k0_9; have k0_10 := cb hb k0_10; have k1_0 := cb hb k1_0; have k1_1 := cb hb k1_1; have k1_2 := cb hb k1_2; have k1_3 := cb hb k1_3; have k1_4 := cb hb k1_4; have k1_5 := cb hb k1_5; have k1_6 := cb hb k1_6; have k1_7 := cb hb k1_7; have k1_8 := cb hb k1_8; have k1_9 := cb hb k1_9; have k1_10 := cb hb k1_10; clear hb)))
  cases s1 with
  | false =>
    go_wp2
    go_ret
    exact ⟨ret_bool (by rw [HE.out]; rfl), bl_from Hw.out hB⟩
  | true =>
    cases s2 with
    | false =>
      go_wp2
      go_ret
      exact ⟨ret_bool (by rw [HE.out]; rfl), bl_from Hw.out hB⟩
    | true =>
      by_cases hkk : kd = kd'
      · subst hkk
        go_wp2
        go_ret
        exact ⟨ret_bool (by rw [HE.out, Bool.eq_iff_iff]; simp), bl_from Hw.out hB⟩
      · have HN := Lib.hid hkk
        have hkb : (kd == kd') = false := by simpa using hkk
        go_wp2
        go_ret
        exact ⟨ret_bool (by rw [HE.out, decide_eq_false HN.out]; rfl), bl_from Hw.out hB⟩
def FitE (w : World) (o : ObjD) (xs : List OX) (e : Ending) (w' : World) : Prop := ∃ f, e = .returned (.bool f) ∧ (f = true → (objSmall o ∧ OSmall (oxs xs) ∧ xs.length ≤ 60)) ∧ Below w.heap.size w w'
theorem fitE_no {w w' : World} {o : ObjD} {xs : List OX} (h : Below w.heap.size w w') : FitE w o xs (.returned (.bool false)) w' := ⟨false, rfl, (fun h => by cases h), h⟩
theorem fitE_of {w w' : World} {o : ObjD} {xs : List OX} (f : Bool) (h : Below w.heap.size w w') (q : f = true → objSmall o) (hx : OSmall (oxs xs)) (hl : xs.length ≤ 60) : FitE w o xs (.returned (.bool f)) w' := ⟨f, rfl, (fun e => ⟨q e, hx, hl⟩), h⟩
theorem fit_small' {o : ObjD} (h : o.key.kind.size ≤ 200 ∧ o.key.space.size ≤ 200 ∧ o.key.name.size ≤ 200 ∧ o.cls.size ≤ 200 ∧ o.charge.length ≤ 40 ∧ ∀ p ∈ o.charge, p.1.size ≤ 200) : objSmall o :=
  ⟨⟨by omega, by omega, by omega⟩, by omega, by omega, fun p hp => Nat.le_trans (h.2.2.2.2.2 p hp) (by omega)⟩
theorem oSmall_snoc {xs : List OX} {k : Nat} (hk : k < xs.length) (h : ∀ o ∈ (oxs xs).take k, objSmall o) (q : objSmall (xs[k]'hk).1) : ∀ o ∈ (oxs xs).take (k + 1), objSmall o := by
  intro o ho
  rw [oxs_take hk] at ho
  rcases List.mem_append.1 ho with r | r
  · exact h o r
  · obtain rfl := List.mem_singleton.1 r; exact q
set_option maxRecDepth 100000 in
set_option maxHeartbeats 8000000 in
theorem fits7_calls (w : World) (kd : Int) {o : ObjD} {sl : Value} (vr : Int) {ol : Value} {xs : List OX} (ho : ObjS w sl o) (hx : ObjsS w ol xs) :
    Calls Try.prog 12 #[evV kd o sl vr ol] w (FitE w o xs) := by
  have HO := Lib.hid ho; have HX := Lib.hid hx
  obtain ⟨ao, co, rfl⟩ := ho.1.form
  obtain ⟨al, cl, rfl⟩ := hx.form
  clear ho hx
  unfold evV
  go_enter Try.func12, Try.ntmps12
  go_upto_region 1 with fail
  first | with_reducible refine name_wp ?_ | with_reducible refine name_calls ?_
  intro W hWeq
  have g0 : W.heap[w.heap.size]? = some (.cells #[.int .i64 kd, .string o.key.kind, .string o.key.space, .string o.key.name, .int .i64 o.ver, .string o.cls, .bool o.term, .bool o.best, .slice ao o.charge.length co, .int .i64 vr, .slice al xs.length cl] 30) := by rw [hWeq]; repeat (first | (with_reducible exact blk_newAt _ _ (by simp)) | with_reducible refine blk_drew ?_ | with_reducible refine blk_dN ?_ _ | with_reducible refine blk_old ?_ _)
  have hw : Below w.heap.size w W := by rw [hWeq]; repeat (first | with_reducible exact Below.refl _ _ | with_reducible refine Below.drew ?_ | with_reducible refine bl_dN ?_ _ | with_reducible refine Below.alloc ?_ (by simp <;> omega) _)
  clear hWeq
  have hz : w.heap.size + 1 ≤ W.heap.size := by have := blk_lt g0; omega
  have c0_0 : W.cell? ⟨w.heap.size, 0, none⟩ = some (.int .i64 kd) := blk_cell g0 0
  have c0_1 : W.cell? ⟨w.heap.size, 1, none⟩ = some (.string o.key.kind) := blk_cell g0 1
  have c0_2 : W.cell? ⟨w.heap.size, 2, none⟩ = some (.string o.key.space) := blk_cell g0 2
  have c0_3 : W.cell? ⟨w.heap.size, 3, none⟩ = some (.string o.key.name) := blk_cell g0 3
  have c0_4 : W.cell? ⟨w.heap.size, 4, none⟩ = some (.int .i64 o.ver) := blk_cell g0 4
  have c0_5 : W.cell? ⟨w.heap.size, 5, none⟩ = some (.string o.cls) := blk_cell g0 5
  have c0_6 : W.cell? ⟨w.heap.size, 6, none⟩ = some (.bool o.term) := blk_cell g0 6
  have c0_7 : W.cell? ⟨w.heap.size, 7, none⟩ = some (.bool o.best) := blk_cell g0 7
  have c0_8 : W.cell? ⟨w.heap.size, 8, none⟩ = some (.slice ao o.charge.length co) := blk_cell g0 8
  have c0_9 : W.cell? ⟨w.heap.size, 9, none⟩ = some (.int .i64 vr) := blk_cell g0 9
  have c0_10 : W.cell? ⟨w.heap.size, 10, none⟩ = some (.slice al xs.length cl) := blk_cell g0 10
  have f0 : ∀ j, W.frozen? ⟨w.heap.size, j, none⟩ = false := blk_free g0
  have hB : Below W.heap.size W W := Below.refl _ _
  have G0 := Lib.hid g0; clear g0
  have F0 := Lib.hid f0; clear f0
  have Hw := Lib.hid hw; clear hw
  have HWX := Lib.hid (HX.out.below Hw.out)
  have HC := Lib.hid (fun (U : World) (h : Below w.heap.size w U) => fits5_calls U (HO.out.below h))
  unfold objV at HC
  by_cases h60 : xs.length ≤ 60
  · have i60 : ¬ (60 : Int) < xs.length := by omega
    have H60 := Lib.hid h60
    go_wp2_with fail
    go_loopw [3] (fun i wr => ∃ k : Nat, i = .int .i64 k ∧ k ≤ xs.length ∧ Hid (∀ o ∈ (oxs xs).take k, objSmall o) ∧ Below W.heap.size W wr) (fun i _ => xs.length - (intOf i).toNat)
    case atStart => exact ⟨0, rfl, Nat.zero_le _, Lib.hid (by intro p hp; cases hp), hB⟩
    case round =>
      clear hB
      obtain ⟨k, rfl, hk, HT, hB⟩ := hrel
      have k0_0 := cb hB c0_0; have k0_1 := cb hB c0_1; have k0_2 := cb hB c0_2; have k0_3 := cb hB c0_3; have k0_4 := cb hB c0_4; have k0_5 := cb hB c0_5; have k0_6 := cb hB c0_6; have k0_7 := cb hB c0_7; have k0_8 := cb hB c0_8; have k0_9 := cb hB c0_9; have k0_10 := cb hB c0_10
      by_cases hkl : k < xs.length
      · have hkI : (k : Int) < xs.length := by omega
        obtain ⟨b, of, c, he, q, s⟩ := HWX.out.at' hkl
        cases he
        have HST := Lib.hid (oSmall_snoc hkl HT.out)
        generalize xs[k]'hkl = x at q s HST
        obtain ⟨x, sx⟩ := x
        simp only at s HST
        have q := q.below hB
        have d0 := q.c0; have d1 := q.c1; have d2 := q.c2; have d3 := q.c3; have d4 := q.c4; have d5 := q.c5; have d6 := q.c6; have d7 := q.c7
        simp only at d0 d1 d2 d3 d4 d5 d6 d7
        have HF := Lib.hid (fits5_calls _ (s.below hB))
        unfold objV at HF
        clear q s
        go_upto_region 7 with (go_at_call 55; ((with_reducible refine HF.out.mono ?_); rintro e w' ⟨f, rfl, hf, hb⟩; have HFF := Lib.hid hf; clear hf; have hB := bl_next hB hb; clear hb))
        cases f with
        | false =>
          go_wp2_with fail
          go_ret
          exact fitE_no (bl_from Hw.out hB)
        | true =>
          have HOK := Lib.hid (HST.out (fit_small' (o := x) (HFF.out rfl)))
          go_wp2_with fail
          go_roundw
          case rel => exact ⟨k + 1, by simp, by omega, HOK, hB⟩
          case measure => simp [intOf]; omega
      · obtain rfl : k = xs.length := by omega
        have hT := HT.out
        rw [← oxs_len xs, List.take_length] at hT
        have HALL := Lib.hid hT
        clear hT
        go_wp2_with (go_at_call 55; ((with_reducible refine (HC.out _ (bl_from Hw.out hB)).mono ?_); rintro e w' ⟨f, rfl, hf, hb⟩; have HFF := Lib.hid hf; clear hf; have hB := bl_next hB hb; clear hb))
        go_ret
        exact fitE_of _ (bl_from Hw.out hB) (fun e => fit_small' (HFF.out e)) HALL.out H60.out
  · have i60 : (60 : Int) < xs.length := by omega
    go_wp2_with fail
    go_ret
    exact fitE_no Hw.out
end Go.Proofs.Ythhfcambdmdgfaa

import Derived.Test.YteomicjjaajblaaVcm
namespace Go.Proofs.Yteomicjjaajblaa
open Go.RowKit Go.Shelf Go.Maps
set_option linter.unusedVariables false
set_option linter.unusedSimpArgs false
theorem bothR_ref {f : Int → Int → Int} {a b : Vec} (hf : ∀ x, f x 0 = x) (ha : rightV a = true) (hb : rightV b = true) (hin : ∀ p ∈ a, wIn p.2 = true) :
    bothR f a b = if b.all (fun p => wIn (f (getV a p.1) p.2)) then (0, foldR f a b) else (3, []) := by
  unfold bothR
  rw [ha, hb, if_neg (by simp), allIn_eq hf ha hb hin, foldR_eq hf ha hb]
theorem foldR_names {f : Int → Int → Int} {a b : Vec} {q : ByteArray × Int} (ha : RiseA ltB a) (h : q ∈ foldR f a b) : (∃ r ∈ a, q.1 = r.1) ∨ ∃ r ∈ b, q.1 = r.1 := by
  unfold foldR at h
  suffices ∀ (b o : Vec), RiseA ltB o → q ∈ b.foldl (stepR f a) o → (∃ r ∈ o, q.1 = r.1) ∨ ∃ r ∈ b, q.1 = r.1 from this b a ha h
  intro b
  induction b with
  | nil => exact fun o _ h => .inl ⟨q, h, rfl⟩
  | cons y r ih =>
    intro o ho h
    rcases ih (stepR f a o y) (putR_rise ho _ _) h with ⟨x, hx, e⟩ | ⟨x, hx, e⟩
    · unfold stepR at hx
      rw [putR_eq ho] at hx
      split at hx
      · exact .inl ⟨x, (mem_del.1 hx).1, e⟩
      · rcases mem_put.1 hx with rfl | hx
        · exact .inr ⟨y, List.mem_cons_self, e⟩
        · exact .inl ⟨x, hx.1, e⟩
    · exact .inr ⟨x, List.mem_cons_of_mem _ hx, e⟩
theorem foldR_rise (f : Int → Int → Int) {a : Vec} (ha : RiseA ltB a) : ∀ b : Vec, RiseA ltB (foldR f a b) := by
  intro b
  unfold foldR
  suffices ∀ (b o : Vec), RiseA ltB o → RiseA ltB (b.foldl (stepR f a) o) from this b a ha
  intro b
  induction b with
  | nil => exact fun o h => h
  | cons y r ih => exact fun o h => ih _ (putR_rise h _ _)
theorem foldR_in {f : Int → Int → Int} {a b : Vec} (ha : RiseA ltB a) (hin : ∀ p ∈ a, wIn p.2 = true) (hb : b.all (fun p => wIn (f (getV a p.1) p.2)) = true) : ∀ q ∈ foldR f a b, wIn q.2 = true := by
  unfold foldR
  suffices ∀ (b o : Vec), RiseA ltB o → (∀ p ∈ o, wIn p.2 = true) → b.all (fun p => wIn (f (getV a p.1) p.2)) = true → ∀ q ∈ b.foldl (stepR f a) o, wIn q.2 = true from this b a ha hin hb
  intro b
  induction b with
  | nil => exact fun o _ h _ => h
  | cons y r ih =>
    intro o ho h hall
    rw [List.all_cons, Bool.and_eq_true] at hall
    refine ih _ (putR_rise ho _ _) (fun q hq => ?_) hall.2
    unfold stepR at hq
    rw [putR_eq ho] at hq
    split at hq
    · exact h q (mem_del.1 hq).1
    · rcases mem_put.1 hq with rfl | hq
      · exact hall.1
      · exact h q hq.1
set_option maxRecDepth 100000 in
set_option maxHeartbeats 32000000 in
theorem rbothA_calls (w : World) {xa xb : Value} {va vb : Vec} (ha : VecS w xa va) (hb : VecS w xb vb) (hl : va.length ≤ 400 ∧ vb.length ≤ 400) (hsa : ∀ p ∈ va, p.1.size ≤ 1000) (hsb : ∀ p ∈ vb, p.1.size ≤ 1000) :
    Calls Try.prog 67 #[xa, xb, .bool false] w (VecOut w (bothR (· + ·) va vb)) := by
  have hB := Below.refl w.heap.size w
  have HA := Lib.hid ha; have HB := Lib.hid hb
  have HSA := Lib.hid hsa; have HSB := Lib.hid hsb
  obtain ⟨hl1, hl2⟩ := hl
  obtain ⟨aa, ca, rfl⟩ := ha.form
  obtain ⟨ab, cb', rfl⟩ := hb.form
  clear ha hb hsa hsb
  have RA := fun (W : World) (h : Below w.heap.size w W) => rvright_calls W (HA.out.below h) (by omega) (fun p hp => Nat.le_trans (HSA.out p hp) (by decide))
  have RB := fun (W : World) (h : Below w.heap.size w W) => rvright_calls W (HB.out.below h) (by omega) (fun p hp => Nat.le_trans (HSB.out p hp) (by decide))
  have RA := Lib.hid RA; have RB := Lib.hid RB
  cases hra : rightV va with
  | false =>
    have HRA := Lib.hid hra
    have HE := Lib.hid (bothR_bad (f := (· + ·)) (b := vb) (.inl hra))
    clear hra
    go_enter Try.func67, Try.ntmps67
    go_wp2_with fail
    refine (RA.out _ hB).mono ?_
    rw [HRA.out]
    rintro e w1 ⟨rfl, hb⟩
    have hB := bl_next hB hb
    clear hb
    go_wp2_with fail
    refine (RB.out _ hB).mono ?_
    rintro e w2 ⟨rfl, hb⟩
    have hB := bl_next hB hb
    clear hb
    go_wp2_with fail
    go_ret2
    exact vecOut_nil HE.out hB
  | true =>
    have HRA := Lib.hid hra
    clear hra
    cases hrb : rightV vb with
    | false =>
      have HRB := Lib.hid hrb
      have HE := Lib.hid (bothR_bad (f := (· + ·)) (a := va) (.inr hrb))
      clear hrb
      go_enter Try.func67, Try.ntmps67
      go_wp2_with fail
      refine (RA.out _ hB).mono ?_
      rw [HRA.out]
      rintro e w1 ⟨rfl, hb⟩
      have hB := bl_next hB hb
      clear hb
      go_wp2_with fail
      refine (RB.out _ hB).mono ?_
      rw [HRB.out]
      rintro e w2 ⟨rfl, hb⟩
      have hB := bl_next hB hb
      clear hb
      go_wp2_with fail
      go_ret2
      exact vecOut_nil HE.out hB
    | true =>
      have HRB := Lib.hid hrb
      have HREF := Lib.hid (bothR_ref (f := (· + ·)) (fun x => by simp) HRA.out hrb HA.out.2)
      have HRISE := Lib.hid (foldR_rise (· + ·) (rightV_spec HRA.out).1)
      clear hrb
      go_enter Try.func67, Try.ntmps67
      go_wp2_with fail
      refine (RA.out _ hB).mono ?_
      rw [HRA.out]
      rintro e w1 ⟨rfl, hb⟩
      have hB := bl_next hB hb
      clear hb
      go_wp2_with fail
      refine (RB.out _ hB).mono ?_
      rw [HRB.out]
      rintro e w2 ⟨rfl, hb⟩
      have HB0 := Lib.hid (bl_next hB hb)
      clear hb hB
      obtain ⟨U0, rfl⟩ : ∃ U0 : World, U0 = w2 := ⟨_, rfl⟩
      have hU0 := HB0.out.size
      go_wp2_with (at_builtin; refine app_vecs rfl (.tmp 25) (.tmp 26) rfl w.heap.size _ [] va rfl (grow_mk hU0 (blk_new U0 _) (by decide) rfl) _ rfl (HA.out.below (HB0.out.alloc hU0 _)) (by simp; omega) (by simp; omega) ?_; intro A0 cap0 w3 hown3 hk3)
      have h9 := HB0.out.alloc hU0 (.cells #[] 64)
      have HB3 := Lib.hid (h9.trans (hk3.below (B := w.heap.size) h9.size (fun q hq => by have := Option.some.inj hq; simp at this; omega)))
      have HR3 := Lib.hid hown3
      clear hown3 hk3 h9 HB0 hU0
      rw [List.nil_append] at HR3
      go_loopw [10, 11] (fun v i wr => ∃ (k : Nat) (A : Option Addr) (cap : Nat), (i = .int .i64 k ∧ v = .slice A (foldR (· + ·) va (vb.take k)).length cap) ∧ k ≤ vb.length ∧ Hid ((vb.take k).all (fun p => wIn (getV va p.1 + p.2)) = true) ∧ Hid (wr.ownsRow w.heap.size 64 3 (.slice A (foldR (· + ·) va (vb.take k)).length cap) (foldR (· + ·) va (vb.take k)).length (vecC (foldR (· + ·) va (vb.take k)))) ∧ Hid (Below w.heap.size w wr)) (fun _ i _ => vb.length - (intOf i).toNat)
      case atStart => exact ⟨0, A0, cap0, ⟨rfl, rfl⟩, Nat.zero_le _, Lib.hid rfl, HR3, HB3⟩
      case round =>
        clear HB3 HR3
        obtain ⟨k, A, cap, ⟨rfl, rfl⟩, hk, HALL, R0, HBr⟩ := hrel
        by_cases hkl : k < vb.length
        · have hkI : (k : Int) < vb.length := by omega
          obtain ⟨b, o, c, he, q0, q1, q2, hin⟩ := HB.out.at' hkl
          cases he
          have q0 := cb HBr.out q0; have q1 := cb HBr.out q1; have q2 := cb HBr.out q2
          have hsz := HSB.out _ (List.getElem_mem hkl)
          have HSTEP := Lib.hid (foldR_succ (f := (· + ·)) (a := va) hkl)
          have HNM := Lib.hid (show ∀ q ∈ foldR (· + ·) va (vb.take k), q.1.size ≤ 1000000 from fun q hq => by
            rcases foldR_names (rightV_spec HRA.out).1 hq with ⟨r, hr, e⟩ | ⟨r, hr, e⟩
            · rw [e]; have := HSA.out r hr; omega
            · rw [e]; have := HSB.out r (List.mem_of_mem_take hr); omega)
          have HWI := Lib.hid (foldR_in (f := (· + ·)) (rightV_spec HRA.out).1 HA.out.2 HALL.out)
          have hml : (foldR (· + ·) va (vb.take k)).length ≤ va.length + k := by have := foldR_len (· + ·) va (vb.take k); rw [List.length_take] at this; omega
          have HAS := Lib.hid (show wIn (getV va (vb[k]'hkl).1 + (vb[k]'hkl).2) = true → (vb.take (k + 1)).all (fun p => wIn (getV va p.1 + p.2)) = true from fun e => by
            rw [List.take_succ_eq_append_getElem hkl, List.all_append, HALL.out]; simpa using e)
          have HOUT := Lib.hid (show wIn (getV va (vb[k]'hkl).1 + (vb[k]'hkl).2) = false → bothR (· + ·) va vb = (3, []) from fun e => by
            rw [HREF.out, if_neg]
            rw [List.all_eq_true]
            intro h
            have := h _ (List.getElem_mem hkl)
            rw [e] at this; cases this)
          obtain ⟨M, hM⟩ : ∃ M, foldR (· + ·) va (vb.take k) = M := ⟨_, rfl⟩
          rw [hM] at R0 HSTEP HNM HWI hml ⊢
          obtain ⟨p, hp⟩ : ∃ p, vb[k]'hkl = p := ⟨_, rfl⟩
          rw [hp] at q0 q1 q2 hsz HSTEP HAS HOUT hin
          clear hp hM
          have HIN1 := Lib.hid (getV_in HA.out.2 p.1)
          have HIN2 := Lib.hid hin
          clear hin
          have HMV := Lib.hid (show VecS wr (.slice A M.length cap) M from ⟨sliS_of R0.out, HWI.out⟩)
          obtain ⟨U0, rfl⟩ : ∃ U0 : World, U0 = wr := ⟨_, rfl⟩
          have hVw := HBr.out.size
          go_upto_region 10 with (go_at_call 65; refine (rvget_calls _ (HA.out.below HBr.out) p.1 (by omega)).mono ?_; rintro e w' ⟨rfl, hb⟩; unfold wideV; have HBU := Lib.hid (HBr.out.trans (hb.mono hVw)); have HMU := Lib.hid (HMV.out.below hb); have q0 := cb hb q0; have q1 := cb hb q1; have q2 := cb hb q2; clear hb)
          obtain ⟨U, rfl⟩ : ∃ U : World, U = w' := ⟨_, rfl⟩
          have hUw := HBU.out.size
          first | with_reducible refine name_wp ?_ | with_reducible refine name_calls ?_
          intro V hWeq
          have g0 : V.heap[U.heap.size]? = some (.cells #[.int .i64 (whi (getV va p.1)), .int .u64 (wlo (getV va p.1))] 40) := by rw [hWeq]; repeat (first | (with_reducible exact blk_newAt _ _ (by simp)) | with_reducible refine blk_drew ?_ | with_reducible refine blk_dN ?_ _ | with_reducible refine blk_old ?_ _)
          have hw : Below U.heap.size U V := by rw [hWeq]; repeat (first | with_reducible exact Below.refl _ _ | with_reducible refine Below.drew ?_ | with_reducible refine bl_dN ?_ _ | with_reducible refine Below.alloc ?_ (by simp <;> omega) _)
          clear hWeq
          have hz : U.heap.size + 1 ≤ V.heap.size := by have := blk_lt g0; omega
          have c0_0 : V.cell? ⟨U.heap.size, 0, none⟩ = some (.int .i64 (whi (getV va p.1))) := blk_cell g0 0
          have c0_1 : V.cell? ⟨U.heap.size, 1, none⟩ = some (.int .u64 (wlo (getV va p.1))) := blk_cell g0 1
          have f0 : ∀ j, V.frozen? ⟨U.heap.size, j, none⟩ = false := blk_free g0
          have hB : Below V.heap.size V V := Below.refl _ _
          have G0 := Lib.hid g0; clear g0
          have F0 := Lib.hid f0; clear f0
          have Hw := Lib.hid hw; clear hw
          have HBV := Lib.hid (HBU.out.trans (Hw.out.mono hUw))
          have HMV2 := Lib.hid (HMU.out.below Hw.out)
          have q0 := cb Hw.out q0; have q1 := cb Hw.out q1; have q2 := cb Hw.out q2
          have hVw2 := HBV.out.size
          cases hio : wIn (getV va p.1 + p.2) with
          | true =>
            have HIN := Lib.hid hio
            have HALL2 := Lib.hid (HAS.out hio)
            clear hio
            go_cut [13, 14] from 41 to 50 (fun s13 s14 wc => ∃ b : Nat, s13 = .pointer (some ⟨b, 0, none⟩) ∧ s14 = .bool true ∧ wc.heap[b]? = some (.cells #[.int .i64 (whi (getV va p.1 + p.2)), .int .u64 (wlo (getV va p.1 + p.2))] 40) ∧ V.heap.size ≤ b ∧ Below V.heap.size V wc)
            case first =>
              have hB := hB.drew
              refine region_plan (fun w' => Below V.heap.size V w') (.take 0 (.take 1 (.take 2 (.take 3 (.take 4 (.take 5 (.both 6 10 (.take 7 (.take 8 (.take 9 (.only 10 (.only 11 (.take 12 .done)))))) (.only 6 (.take 7 (.take 8 (.take 9 (.only 11 (.take 12 .done))))))))))))) (by kernel_rfl) (by kernel_rfl) (fun _ _ _ _ h => h) hB ?_
              try generalize World.drew _ = wS at hB ⊢
              refine plan_take (v := ?_) (a' := ?_) (some 42) rfl rfl (by rfl) ?_ ?_ ?_
              rotate_left; rotate_left
              · intro w' hS; have s0_0 := cb hS c0_0; have s0_1 := cb hS c0_1; have s8 := cb hS q1; have s9 := cb hS q2; go_simp; with_reducible rfl
              · simp only [Act.put, List.setIfInBounds_toArray, List.set_cons_zero, List.set_cons_succ]; rfl
              refine plan_take (v := ?_) (a' := ?_) (some 43) rfl rfl (by rfl) ?_ ?_ ?_
              rotate_left; rotate_left
              · intro w' hS; go_simp; with_reducible rfl
              · simp only [Act.put, List.setIfInBounds_toArray, List.set_cons_zero, List.set_cons_succ]; rfl
              refine plan_take (v := ?_) (a' := ?_) (some 44) rfl rfl (by rfl) ?_ ?_ ?_
              rotate_left; rotate_left
              · intro w' hS; go_simp; with_reducible rfl
              · simp only [Act.put, List.setIfInBounds_toArray, List.set_cons_zero, List.set_cons_succ]; rfl
              refine plan_take (v := ?_) (a' := ?_) (some 45) rfl rfl (by rfl) ?_ ?_ ?_
              rotate_left; rotate_left
              · intro w' hS; go_simp; with_reducible rfl
              · simp only [Act.put, List.setIfInBounds_toArray, List.set_cons_zero, List.set_cons_succ]; rfl
              refine plan_take (v := ?_) (a' := ?_) (some 46) rfl rfl (by rfl) ?_ ?_ ?_
              rotate_left; rotate_left
              · intro w' hS; go_simp; with_reducible rfl
              · simp only [Act.put, List.setIfInBounds_toArray, List.set_cons_zero, List.set_cons_succ]; rfl
              refine plan_take (v := ?_) (a' := ?_) (some 47) rfl rfl (by rfl) ?_ ?_ ?_
              rotate_left; rotate_left
              · intro w' hS; have s0_0 := cb hS c0_0; have s0_1 := cb hS c0_1; have s8 := cb hS q1; have s9 := cb hS q2; go_simp; with_reducible rfl
              · simp only [Act.put, List.setIfInBounds_toArray, List.set_cons_zero, List.set_cons_succ]; rfl
              refine plan_both ?_ ?_
              · refine plan_call (args := ?_) Try.func21 (by kernel_rfl) rfl (some 48) rfl rfl (by rfl) rfl ?_ ?_
                rotate_left
                · simp only [List.map_toArray, List.map_cons, List.map_nil]; go_simp; rfl
                with_reducible refine (radd_calls _ _ _ _ _ (WOk.of_in HIN1.out) (WOk.of_in HIN2.out)).mono ?_
                rintro e w' ⟨rfl, hb⟩
                rw [wval_of, wval_of, wres_in HIN.out]
                refine ⟨_, rfl, bl_next hB hb, ?_⟩
                have hB := bl_next hB hb; clear hb
                simp only [Act.put, List.setIfInBounds_toArray, List.set_cons_zero, List.set_cons_succ]
                refine plan_take (v := ?_) (a' := ?_) (some 41) rfl rfl (by rfl) ?_ ?_ ?_
                rotate_left; rotate_left
                · intro w' hS; go_simp; with_reducible rfl
                · simp only [Act.put, List.setIfInBounds_toArray, List.set_cons_zero, List.set_cons_succ]; rfl
                refine plan_take (v := ?_) (a' := ?_) (some 49) rfl rfl (by rfl) ?_ ?_ ?_
                rotate_left; rotate_left
                · intro w' hS; go_simp; with_reducible rfl
                · simp only [Act.put, List.setIfInBounds_toArray, List.set_cons_zero, List.set_cons_succ]; rfl
                refine plan_take (v := ?_) (a' := ?_) (some 50) rfl rfl (by rfl) ?_ ?_ ?_
                rotate_left; rotate_left
                · intro w' hS; go_simp; with_reducible rfl
                · simp only [Act.put, List.setIfInBounds_toArray, List.set_cons_zero, List.set_cons_succ]; rfl
                refine plan_op (some 13) rfl rfl (by rfl) ?_
                apply Exists.intro; apply Exists.intro; apply And.intro
                · go_simp; first | exact ⟨rfl, rfl⟩ | rfl
                apply Exists.intro; apply And.intro
                · simp only [Act.put, List.setIfInBounds_toArray, List.set_cons_zero, List.set_cons_succ]; rfl
                apply And.intro
                · exact Below.alloc hB hB.size _
                have hbV := hB.size
                refine plan_named ?_; intro wA gA hbA; have hB := bl_next hB hbA; clear hbA
                have hlA := blk_lt gA
                have cA0 : _ = some _ := blk_cell gA 0
                have fA0 := blk_free gA 0
                have cA1 : _ = some _ := blk_cell gA 1
                have fA1 := blk_free gA 1
                refine plan_store none rfl rfl (by rfl) ?_
                apply Exists.intro; apply And.intro
                · go_simp; first | exact ⟨rfl, rfl⟩ | rfl
                apply Exists.intro; apply And.intro
                · simp only [Act.put, List.setIfInBounds_toArray, List.set_cons_zero, List.set_cons_succ]; rfl
                apply And.intro
                · exact Below.setCell (Below.setCell hB hbV _) hbV _
                clear cA0 fA0 cA1 fA1
                refine plan_set2 gA hB hbV ?_; clear gA hB hlA; intro wB gA hB
                refine plan_take (v := ?_) (a' := ?_) (some 14) rfl rfl (by rfl) ?_ ?_ ?_
                rotate_left; rotate_left
                · intro w' hS; go_simp; with_reducible rfl
                · simp only [Act.put, List.setIfInBounds_toArray, List.set_cons_zero, List.set_cons_succ]; rfl
                refine plan_done ?_
                go_wp2_with fail
                go_meet
                exact ⟨_, rfl, rfl, gA, hbV, hB⟩
              · refine plan_op (some 13) rfl rfl (by rfl) ?_
                apply Exists.intro; apply Exists.intro; apply And.intro
                · go_simp; first | exact ⟨rfl, rfl⟩ | rfl
                apply Exists.intro; apply And.intro
                · simp only [Act.put, List.setIfInBounds_toArray, List.set_cons_zero, List.set_cons_succ]; rfl
                apply And.intro
                · exact Below.alloc hB hB.size _
                have hbV := hB.size
                refine plan_named ?_; intro wA gA hbA; have hB := bl_next hB hbA; clear hbA
                refine plan_call (args := ?_) Try.func21 (by kernel_rfl) rfl (some 48) rfl rfl (by rfl) rfl ?_ ?_
                rotate_left
                · simp only [List.map_toArray, List.map_cons, List.map_nil]; go_simp; rfl
                with_reducible refine (radd_calls _ _ _ _ _ (WOk.of_in HIN1.out) (WOk.of_in HIN2.out)).mono ?_
                rintro e w' ⟨rfl, hb⟩
                rw [wval_of, wval_of, wres_in HIN.out]
                refine ⟨_, rfl, bl_next hB hb, ?_⟩
                have gA := blk_below gA hb
                have hB := bl_next hB hb; clear hb
                simp only [Act.put, List.setIfInBounds_toArray, List.set_cons_zero, List.set_cons_succ]
                refine plan_take (v := ?_) (a' := ?_) (some 41) rfl rfl (by rfl) ?_ ?_ ?_
                rotate_left; rotate_left
                · intro w' hS; go_simp; with_reducible rfl
                · simp only [Act.put, List.setIfInBounds_toArray, List.set_cons_zero, List.set_cons_succ]; rfl
                refine plan_take (v := ?_) (a' := ?_) (some 49) rfl rfl (by rfl) ?_ ?_ ?_
                rotate_left; rotate_left
                · intro w' hS; go_simp; with_reducible rfl
                · simp only [Act.put, List.setIfInBounds_toArray, List.set_cons_zero, List.set_cons_succ]; rfl
                refine plan_take (v := ?_) (a' := ?_) (some 50) rfl rfl (by rfl) ?_ ?_ ?_
                rotate_left; rotate_left
                · intro w' hS; go_simp; with_reducible rfl
                · simp only [Act.put, List.setIfInBounds_toArray, List.set_cons_zero, List.set_cons_succ]; rfl
                have hlA := blk_lt gA
                have cA0 : _ = some _ := blk_cell gA 0
                have fA0 := blk_free gA 0
                have cA1 : _ = some _ := blk_cell gA 1
                have fA1 := blk_free gA 1
                refine plan_store none rfl rfl (by rfl) ?_
                apply Exists.intro; apply And.intro
                · go_simp; first | exact ⟨rfl, rfl⟩ | rfl
                apply Exists.intro; apply And.intro
                · simp only [Act.put, List.setIfInBounds_toArray, List.set_cons_zero, List.set_cons_succ]; rfl
                apply And.intro
                · exact Below.setCell (Below.setCell hB hbV _) hbV _
                clear cA0 fA0 cA1 fA1
                refine plan_set2 gA hB hbV ?_; clear gA hB hlA; intro wB gA hB
                refine plan_take (v := ?_) (a' := ?_) (some 14) rfl rfl (by rfl) ?_ ?_ ?_
                rotate_left; rotate_left
                · intro w' hS; go_simp; with_reducible rfl
                · simp only [Act.put, List.setIfInBounds_toArray, List.set_cons_zero, List.set_cons_succ]; rfl
                refine plan_done ?_
                go_wp2_with fail
                go_meet
                exact ⟨_, rfl, rfl, gA, hbV, hB⟩
            case rest =>
              obtain ⟨b1, rfl, rfl, gK, hbK, hcB⟩ := hcut
              obtain ⟨V1, rfl⟩ : ∃ V1 : World, V1 = wc := ⟨_, rfl⟩
              have c0_0 := cb hcB c0_0
              have c0_1 := cb hcB c0_1
              have c1_0 : V1.cell? ⟨b1, 0, none⟩ = some (.int .i64 (whi (getV va p.1 + p.2))) := blk_cell gK 0
              have c1_1 : V1.cell? ⟨b1, 1, none⟩ = some (.int .u64 (wlo (getV va p.1 + p.2))) := blk_cell gK 1
              have F1 := Lib.hid (fun j => blk_free gK j)
              have HB_V1 := Lib.hid hcB
              have Hw := Lib.hid (bl_from Hw.out hcB)
              clear hcB hbK gK
              try clear hB
              have hB : Below V1.heap.size V1 V1 := Below.refl _ _
              have kz0 : U.heap.size < V1.heap.size := lt_of_cell c0_0
              have kz1 : b1 < V1.heap.size := lt_of_cell c1_0
              have q0 := cb HB_V1.out q0; have q1 := cb HB_V1.out q1; have q2 := cb HB_V1.out q2
              have HM1 := Lib.hid (HMV2.out.below HB_V1.out)
              have HBV1 := Lib.hid (HBV.out.trans (HB_V1.out.mono hVw2))
              have hVw3 := HBV1.out.size
              go_upto_region 15 with fail
              have hB := hB.drew
              refine region_seq (fun w' => Below V1.heap.size V1 w') [(0, true), (1, true), (2, true), (3, true), (4, true), (5, true), (6, true), (7, false), (8, true)] (by kernel_rfl) (by kernel_rfl) (fun _ _ _ _ h => h) hB ?_
              try generalize World.drew _ = wS at hB ⊢
              refine seq_take (v := ?_) (a' := ?_) (some 64) rfl rfl (by rfl) ?_ ?_ ?_
              rotate_left; rotate_left
              · intro w' hS; go_simp; with_reducible rfl
              · simp only [Act.put, List.setIfInBounds_toArray, List.set_cons_zero, List.set_cons_succ]; rfl
              refine seq_take (v := ?_) (a' := ?_) (some 65) rfl rfl (by rfl) ?_ ?_ ?_
              rotate_left; rotate_left
              · intro w' hS; go_simp; with_reducible rfl
              · simp only [Act.put, List.setIfInBounds_toArray, List.set_cons_zero, List.set_cons_succ]; rfl
              refine seq_take (v := ?_) (a' := ?_) (some 66) rfl rfl (by rfl) ?_ ?_ ?_
              rotate_left; rotate_left
              · intro w' hS; go_simp; with_reducible rfl
              · simp only [Act.put, List.setIfInBounds_toArray, List.set_cons_zero, List.set_cons_succ]; rfl
              refine seq_take (v := ?_) (a' := ?_) (some 67) rfl rfl (by rfl) ?_ ?_ ?_
              rotate_left; rotate_left
              · intro w' hS; go_simp; with_reducible rfl
              · simp only [Act.put, List.setIfInBounds_toArray, List.set_cons_zero, List.set_cons_succ]; rfl
              refine seq_take (v := ?_) (a' := ?_) (some 68) rfl rfl (by rfl) ?_ ?_ ?_
              rotate_left; rotate_left
              · intro w' hS; go_simp; with_reducible rfl
              · simp only [Act.put, List.setIfInBounds_toArray, List.set_cons_zero, List.set_cons_succ]; rfl
              refine seq_take (v := ?_) (a' := ?_) (some 69) rfl rfl (by rfl) ?_ ?_ ?_
              rotate_left; rotate_left
              · intro w' hS; have p0 := cb hS q0; have p1 := cb hS c1_0; have p2 := cb hS c1_1; go_simp; with_reducible rfl
              · simp only [Act.put, List.setIfInBounds_toArray, List.set_cons_zero, List.set_cons_succ]; rfl
              refine seq_take (v := ?_) (a' := ?_) (some 70) rfl rfl (by rfl) ?_ ?_ ?_
              rotate_left; rotate_left
              · intro w' hS; have p0 := cb hS q0; have p1 := cb hS c1_0; have p2 := cb hS c1_1; go_simp; with_reducible rfl
              · simp only [Act.put, List.setIfInBounds_toArray, List.set_cons_zero, List.set_cons_succ]; rfl
              refine seq_call (args := ?_) Try.func66 (by kernel_rfl) rfl (some 71) rfl rfl (by rfl) rfl ?_ ?_
              rotate_left
              · simp only [List.map_toArray, List.map_cons, List.map_nil]; go_simp; rfl
              with_reducible refine (rput_calls _ (HM1.out.below hB) p.1 (getV va p.1 + p.2) (by omega) (by omega) HNM.out).mono ?_
              rintro e w' ⟨y, rfl, hrow, hb⟩
              obtain ⟨ay, cy, rfl⟩ := rw_form hrow; have HRN := Lib.hid (rw_mono hrow (Nat.le_trans hVw3 hB.size)); clear hrow
              refine ⟨_, rfl, bl_next (by repeat (first | with_reducible exact hB | refine Below.alloc ?_ (by have := hB.size; simp; omega) _ | refine bl_dN ?_ _ | refine Below.drew ?_ | refine Below.setCell ?_ (by have := hB.size; simp; omega) _)) hb, ?_⟩
              have hB := bl_next (by repeat (first | with_reducible exact hB | refine Below.alloc ?_ (by have := hB.size; simp; omega) _ | refine bl_dN ?_ _ | refine Below.drew ?_ | refine Below.setCell ?_ (by have := hB.size; simp; omega) _)) hb; clear hb
              simp only [Act.put, List.setIfInBounds_toArray, List.set_cons_zero, List.set_cons_succ]
              refine seq_take (v := ?_) (a' := ?_) (some 10) rfl rfl (by rfl) ?_ ?_ ?_
              rotate_left; rotate_left
              · intro w' hS; go_simp; with_reducible rfl
              · simp only [Act.put, List.setIfInBounds_toArray, List.set_cons_zero, List.set_cons_succ]; rfl
              refine seq_done ?_
              have HB2 := Lib.hid (HBV1.out.trans (hB.mono hVw3))
              clear hB
              go_wp2_with fail
              go_roundw
              case rel => exact ⟨k + 1, ay, cy, ⟨by simp, by rw [HSTEP.out]; rfl⟩, by omega, HALL2, by rw [HSTEP.out]; exact HRN, HB2⟩
              case measure => simp [intOf]; omega
          | false =>
            have HIN := Lib.hid hio
            have HE := Lib.hid (HOUT.out hio)
            clear hio
            go_cut [13, 14] from 41 to 50 (fun s13 s14 wc => ∃ b : Nat, s13 = .pointer (some ⟨b, 0, none⟩) ∧ s14 = .bool false ∧ wc.heap[b]? = some (.cells #[.int .i64 (0), .int .u64 (0)] 40) ∧ V.heap.size ≤ b ∧ Below V.heap.size V wc)
            case first =>
              have hB := hB.drew
              refine region_plan (fun w' => Below V.heap.size V w') (.take 0 (.take 1 (.take 2 (.take 3 (.take 4 (.take 5 (.both 6 10 (.take 7 (.take 8 (.take 9 (.only 10 (.only 11 (.take 12 .done)))))) (.only 6 (.take 7 (.take 8 (.take 9 (.only 11 (.take 12 .done))))))))))))) (by kernel_rfl) (by kernel_rfl) (fun _ _ _ _ h => h) hB ?_
              try generalize World.drew _ = wS at hB ⊢
              refine plan_take (v := ?_) (a' := ?_) (some 42) rfl rfl (by rfl) ?_ ?_ ?_
              rotate_left; rotate_left
              · intro w' hS; have s0_0 := cb hS c0_0; have s0_1 := cb hS c0_1; have s8 := cb hS q1; have s9 := cb hS q2; go_simp; with_reducible rfl
              · simp only [Act.put, List.setIfInBounds_toArray, List.set_cons_zero, List.set_cons_succ]; rfl
              refine plan_take (v := ?_) (a' := ?_) (some 43) rfl rfl (by rfl) ?_ ?_ ?_
              rotate_left; rotate_left
              · intro w' hS; go_simp; with_reducible rfl
              · simp only [Act.put, List.setIfInBounds_toArray, List.set_cons_zero, List.set_cons_succ]; rfl
              refine plan_take (v := ?_) (a' := ?_) (some 44) rfl rfl (by rfl) ?_ ?_ ?_
              rotate_left; rotate_left
              · intro w' hS; go_simp; with_reducible rfl
              · simp only [Act.put, List.setIfInBounds_toArray, List.set_cons_zero, List.set_cons_succ]; rfl
              refine plan_take (v := ?_) (a' := ?_) (some 45) rfl rfl (by rfl) ?_ ?_ ?_
              rotate_left; rotate_left
              · intro w' hS; go_simp; with_reducible rfl
              · simp only [Act.put, List.setIfInBounds_toArray, List.set_cons_zero, List.set_cons_succ]; rfl
              refine plan_take (v := ?_) (a' := ?_) (some 46) rfl rfl (by rfl) ?_ ?_ ?_
              rotate_left; rotate_left
              · intro w' hS; go_simp; with_reducible rfl
              · simp only [Act.put, List.setIfInBounds_toArray, List.set_cons_zero, List.set_cons_succ]; rfl
              refine plan_take (v := ?_) (a' := ?_) (some 47) rfl rfl (by rfl) ?_ ?_ ?_
              rotate_left; rotate_left
              · intro w' hS; have s0_0 := cb hS c0_0; have s0_1 := cb hS c0_1; have s8 := cb hS q1; have s9 := cb hS q2; go_simp; with_reducible rfl
              · simp only [Act.put, List.setIfInBounds_toArray, List.set_cons_zero, List.set_cons_succ]; rfl
              refine plan_both ?_ ?_
              · refine plan_call (args := ?_) Try.func21 (by kernel_rfl) rfl (some 48) rfl rfl (by rfl) rfl ?_ ?_
                rotate_left
                · simp only [List.map_toArray, List.map_cons, List.map_nil]; go_simp; rfl
                with_reducible refine (radd_calls _ _ _ _ _ (WOk.of_in HIN1.out) (WOk.of_in HIN2.out)).mono ?_
                rintro e w' ⟨rfl, hb⟩
                rw [wval_of, wval_of, wres_out HIN.out]
                refine ⟨_, rfl, bl_next hB hb, ?_⟩
                have hB := bl_next hB hb; clear hb
                simp only [Act.put, List.setIfInBounds_toArray, List.set_cons_zero, List.set_cons_succ]
                refine plan_take (v := ?_) (a' := ?_) (some 41) rfl rfl (by rfl) ?_ ?_ ?_
                rotate_left; rotate_left
                · intro w' hS; go_simp; with_reducible rfl
                · simp only [Act.put, List.setIfInBounds_toArray, List.set_cons_zero, List.set_cons_succ]; rfl
                refine plan_take (v := ?_) (a' := ?_) (some 49) rfl rfl (by rfl) ?_ ?_ ?_
                rotate_left; rotate_left
                · intro w' hS; go_simp; with_reducible rfl
                · simp only [Act.put, List.setIfInBounds_toArray, List.set_cons_zero, List.set_cons_succ]; rfl
                refine plan_take (v := ?_) (a' := ?_) (some 50) rfl rfl (by rfl) ?_ ?_ ?_
                rotate_left; rotate_left
                · intro w' hS; go_simp; with_reducible rfl
                · simp only [Act.put, List.setIfInBounds_toArray, List.set_cons_zero, List.set_cons_succ]; rfl
                refine plan_op (some 13) rfl rfl (by rfl) ?_
                apply Exists.intro; apply Exists.intro; apply And.intro
                · go_simp; first | exact ⟨rfl, rfl⟩ | rfl
                apply Exists.intro; apply And.intro
                · simp only [Act.put, List.setIfInBounds_toArray, List.set_cons_zero, List.set_cons_succ]; rfl
                apply And.intro
                · exact Below.alloc hB hB.size _
                have hbV := hB.size
                refine plan_named ?_; intro wA gA hbA; have hB := bl_next hB hbA; clear hbA
                have hlA := blk_lt gA
                have cA0 : _ = some _ := blk_cell gA 0
                have fA0 := blk_free gA 0
                have cA1 : _ = some _ := blk_cell gA 1
                have fA1 := blk_free gA 1
                refine plan_store none rfl rfl (by rfl) ?_
                apply Exists.intro; apply And.intro
                · go_simp; first | exact ⟨rfl, rfl⟩ | rfl
                apply Exists.intro; apply And.intro
                · simp only [Act.put, List.setIfInBounds_toArray, List.set_cons_zero, List.set_cons_succ]; rfl
                apply And.intro
                · exact Below.setCell (Below.setCell hB hbV _) hbV _
                clear cA0 fA0 cA1 fA1
                refine plan_set2 gA hB hbV ?_; clear gA hB hlA; intro wB gA hB
                refine plan_take (v := ?_) (a' := ?_) (some 14) rfl rfl (by rfl) ?_ ?_ ?_
                rotate_left; rotate_left
                · intro w' hS; go_simp; with_reducible rfl
                · simp only [Act.put, List.setIfInBounds_toArray, List.set_cons_zero, List.set_cons_succ]; rfl
                refine plan_done ?_
                go_wp2_with fail
                go_meet
                exact ⟨_, rfl, rfl, gA, hbV, hB⟩
              · refine plan_op (some 13) rfl rfl (by rfl) ?_
                apply Exists.intro; apply Exists.intro; apply And.intro
                · go_simp; first | exact ⟨rfl, rfl⟩ | rfl
                apply Exists.intro; apply And.intro
                · simp only [Act.put, List.setIfInBounds_toArray, List.set_cons_zero, List.set_cons_succ]; rfl
                apply And.intro
                · exact Below.alloc hB hB.size _
                have hbV := hB.size
                refine plan_named ?_; intro wA gA hbA; have hB := bl_next hB hbA; clear hbA
                refine plan_call (args := ?_) Try.func21 (by kernel_rfl) rfl (some 48) rfl rfl (by rfl) rfl ?_ ?_
                rotate_left
                · simp only [List.map_toArray, List.map_cons, List.map_nil]; go_simp; rfl
                with_reducible refine (radd_calls _ _ _ _ _ (WOk.of_in HIN1.out) (WOk.of_in HIN2.out)).mono ?_
                rintro e w' ⟨rfl, hb⟩
                rw [wval_of, wval_of, wres_out HIN.out]
                refine ⟨_, rfl, bl_next hB hb, ?_⟩
                have gA := blk_below gA hb
                have hB := bl_next hB hb; clear hb
                simp only [Act.put, List.setIfInBounds_toArray, List.set_cons_zero, List.set_cons_succ]
                refine plan_take (v := ?_) (a' := ?_) (some 41) rfl rfl (by rfl) ?_ ?_ ?_
                rotate_left; rotate_left
                · intro w' hS; go_simp; with_reducible rfl
                · simp only [Act.put, List.setIfInBounds_toArray, List.set_cons_zero, List.set_cons_succ]; rfl
                refine plan_take (v := ?_) (a' := ?_) (some 49) rfl rfl (by rfl) ?_ ?_ ?_
                rotate_left; rotate_left
                · intro w' hS; go_simp; with_reducible rfl
                · simp only [Act.put, List.setIfInBounds_toArray, List.set_cons_zero, List.set_cons_succ]; rfl
                refine plan_take (v := ?_) (a' := ?_) (some 50) rfl rfl (by rfl) ?_ ?_ ?_
                rotate_left; rotate_left
                · intro w' hS; go_simp; with_reducible rfl
                · simp only [Act.put, List.setIfInBounds_toArray, List.set_cons_zero, List.set_cons_succ]; rfl
                have hlA := blk_lt gA
                have cA0 : _ = some _ := blk_cell gA 0
                have fA0 := blk_free gA 0
                have cA1 : _ = some _ := blk_cell gA 1
                have fA1 := blk_free gA 1
                refine plan_store none rfl rfl (by rfl) ?_
                apply Exists.intro; apply And.intro
                · go_simp; first | exact ⟨rfl, rfl⟩ | rfl
                apply Exists.intro; apply And.intro
                · simp only [Act.put, List.setIfInBounds_toArray, List.set_cons_zero, List.set_cons_succ]; rfl
                apply And.intro
                · exact Below.setCell (Below.setCell hB hbV _) hbV _
                clear cA0 fA0 cA1 fA1
                refine plan_set2 gA hB hbV ?_; clear gA hB hlA; intro wB gA hB
                refine plan_take (v := ?_) (a' := ?_) (some 14) rfl rfl (by rfl) ?_ ?_ ?_
                rotate_left; rotate_left
                · intro w' hS; go_simp; with_reducible rfl
                · simp only [Act.put, List.setIfInBounds_toArray, List.set_cons_zero, List.set_cons_succ]; rfl
                refine plan_done ?_
                go_wp2_with fail
                go_meet
                exact ⟨_, rfl, rfl, gA, hbV, hB⟩
            case rest =>
              obtain ⟨b1, rfl, rfl, gK, hbK, hcB⟩ := hcut
              obtain ⟨V1, rfl⟩ : ∃ V1 : World, V1 = wc := ⟨_, rfl⟩
              have c0_0 := cb hcB c0_0
              have c0_1 := cb hcB c0_1
              have c1_0 : V1.cell? ⟨b1, 0, none⟩ = some (.int .i64 (0)) := blk_cell gK 0
              have c1_1 : V1.cell? ⟨b1, 1, none⟩ = some (.int .u64 (0)) := blk_cell gK 1
              have F1 := Lib.hid (fun j => blk_free gK j)
              have HB_V1 := Lib.hid hcB
              have Hw := Lib.hid (bl_from Hw.out hcB)
              clear hcB hbK gK
              try clear hB
              have hB : Below V1.heap.size V1 V1 := Below.refl _ _
              have kz0 : U.heap.size < V1.heap.size := lt_of_cell c0_0
              have kz1 : b1 < V1.heap.size := lt_of_cell c1_0
              go_wp2_with fail
              go_ret2
              exact vecOut_nil HE.out (HBV.out.trans (HB_V1.out.mono hVw2))
        · obtain rfl : k = vb.length := by omega
          have hR := R0.out; have hA := HALL.out
          rw [List.take_length] at hR hA
          have HR := Lib.hid hR
          have HE := Lib.hid (show bothR (· + ·) va vb = (0, foldR (· + ·) va vb) by rw [HREF.out, if_pos hA])
          clear hR hA
          rw [List.take_length]
          go_wp2_with fail
          go_ret2
          rw [HE.out]
          exact ⟨_, rfl, HR.out, HBr.out⟩
theorem radd4_calls (w : World) {xa xb : Value} {va vb : Vec} (ha : VecS w xa va) (hb : VecS w xb vb) (hl : va.length ≤ 400 ∧ vb.length ≤ 400) (hsa : ∀ p ∈ va, p.1.size ≤ 1000) (hsb : ∀ p ∈ vb, p.1.size ≤ 1000) :
    Calls Try.prog 41 #[xa, xb] w (VecOut w (bothR (· + ·) va vb)) := by
  have H := Lib.hid (rbothA_calls w ha hb hl hsa hsb)
  obtain ⟨aa, ca, rfl⟩ := ha.form
  obtain ⟨ab, cb', rfl⟩ := hb.form
  clear ha hb
  go_enter Try.func41, Try.ntmps41
  go_wp2_with fail
  refine H.out.mono ?_
  rintro e w1 ⟨x, rfl, hrow, hb⟩
  obtain ⟨ax, cx, rfl⟩ := rw_form hrow
  go_wp2_with fail
  go_ret2
  exact ⟨_, rfl, hrow, hb⟩
theorem add_calls (w : World) {xa xb : Value} {va vb : Vec} (ha : VecS w xa va) (hb : VecS w xb vb) (hl : va.length ≤ 400 ∧ vb.length ≤ 400) (hsa : ∀ p ∈ va, p.1.size ≤ 1000) (hsb : ∀ p ∈ vb, p.1.size ≤ 1000) :
    Calls Try.prog 39 #[xa, xb] w (VecOut w (bothR (· + ·) va vb)) := by
  have H := Lib.hid (both_calls w ha hb hl hsa hsb 61 _ Try.func61 (by kernel_rfl) rfl (· + ·) (fun x y w hx hy => by
    have := wadd_calls (whi x) (wlo x) (whi y) (wlo y) w (WOk.of_in hx) (WOk.of_in hy)
    rw [wval_of, wval_of] at this; exact this))
  obtain ⟨aa, ca, rfl⟩ := ha.form
  obtain ⟨ab, cb', rfl⟩ := hb.form
  clear ha hb
  go_enter Try.func39, Try.ntmps39
  go_wp2_with fail
  refine H.out.mono ?_
  rintro e w1 ⟨x, rfl, hrow, hb⟩
  obtain ⟨ax, cx, rfl⟩ := rw_form hrow
  go_wp2_with fail
  go_ret2
  exact ⟨_, rfl, hrow, hb⟩
end Go.Proofs.Yteomicjjaajblaa

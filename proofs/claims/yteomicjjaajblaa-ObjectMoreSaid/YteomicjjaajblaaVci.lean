import Derived.Test.YteomicjjaajblaaVch
import Derived.Test.YteomicjjaajblaaPlan
namespace Go.Proofs.Yteomicjjaajblaa
open Go.RowKit Go.Shelf Go.Maps
set_option linter.unusedVariables false
set_option linter.unusedSimpArgs false
/-! ### Both -/
theorem getV_in {v : Vec} (h : ∀ p ∈ v, wIn p.2 = true) (n : ByteArray) : wIn (getV v n) = true := by
  by_cases h0 : getV v n = 0
  · rw [h0]; decide
  · obtain ⟨x, hx, e⟩ := getV_ne h0; rw [← e]; exact h _ hx
theorem foldB_succ {f : Int → Int → Int} {a b : Vec} {l : List ByteArray} {k : Nat} (h : k < l.length) : foldB f a b (l.take (k + 1)) = putA ltB (foldB f a b (l.take k)) (l[k]'h) (f (getV a (l[k]'h)) (getV b (l[k]'h))) := by
  rw [List.take_succ_eq_append_getElem h, foldB_snoc]
theorem SliS.turned {w w' : World} {P : Program} {K : TypeId} {kb n : Nat} {D : DataW Value} {v : Value} {sz m : Nat} {cs : List Value} (h : SliS w v sz m cs) (hm : w.ownsMap P K RV kb n D) (hg : w.grownBy w' (some kb)) : SliS w' v sz m cs := by
  obtain ⟨hl, A, c, rfl, hc, h0 | ⟨b, off, rfl, hx⟩⟩ := h
  · exact ⟨hl, A, c, rfl, hc, .inl h0⟩
  · refine ⟨hl, _, c, rfl, hc, .inr ⟨b, off, rfl, fun j u hu => ?_⟩⟩
    have h1 := hx j u hu
    refine (World.cell?_of_block (hg.block b (lt_of_cell h1) (fun e => ?_))).trans h1
    have e := Option.some.inj e
    change b = kb at e
    subst e
    obtain ⟨es, clock, hb, _⟩ := hm
    simp [World.cell?, hb] at h1
theorem VecS.turned {w w' : World} {P : Program} {K : TypeId} {kb n : Nat} {D : DataW Value} {x : Value} {v : Vec} (h : VecS w x v) (hm : w.ownsMap P K RV kb n D) (hg : w.grownBy w' (some kb)) : VecS w' x v := ⟨h.1.turned hm hg, h.2⟩
theorem bothR_bad {f : Int → Int → Int} {a b : Vec} (h : rightV a = false ∨ rightV b = false) : bothR f a b = (1, []) := by
  unfold bothR
  rcases h with h | h <;> rw [h] <;> simp
set_option maxRecDepth 100000 in
set_option maxHeartbeats 32000000 in
theorem both_calls (w : World) {xa xb : Value} {va vb : Vec} (ha : VecS w xa va) (hb : VecS w xb vb) (hl : va.length ≤ 400 ∧ vb.length ≤ 400) (hsa : ∀ p ∈ va, p.1.size ≤ 1000) (hsb : ∀ p ∈ vb, p.1.size ≤ 1000)
    (fid : FuncId) (fn : Func) (hf : Try.prog.funcs[fid]? = some fn) (hname : (fn.name == "runtime.NumGoroutine") = false) (hbody : fn.body.isSome = true) (f : Int → Int → Int)
    (does : ∀ (x y : Int) (w : World), wIn x = true → wIn y = true → Calls Try.prog fid #[.agg #[.int .i64 (whi x), .int .u64 (wlo x)], .agg #[.int .i64 (whi y), .int .u64 (wlo y)]] w fun e w' => e = .returned (wideRes (f x y)) ∧ Below w.heap.size w w') :
    Calls Try.prog 64 #[xa, xb, .func (.func fid) #[] #[]] w (VecOut w (bothR f va vb)) := by
  have hB := Below.refl w.heap.size w
  have HA := Lib.hid ha; have HB := Lib.hid hb
  have HSA := Lib.hid hsa; have HSB := Lib.hid hsb
  have HDOES := Lib.hid does
  have HF := Lib.hid hf; have HNAME := Lib.hid hname; have HBODY := Lib.hid hbody
  obtain ⟨hl1, hl2⟩ := hl
  obtain ⟨aa, ca, rfl⟩ := ha.form
  obtain ⟨ab, cb', rfl⟩ := hb.form
  clear ha hb hsa hsb does hf hname hbody
  have hrun : ∀ c : Bool, True := fun _ => trivial
  cases hra : rightV va with
  | false =>
    have HRA := Lib.hid hra
    have HE := Lib.hid (bothR_bad (f := f) (b := vb) (.inl hra))
    clear hra
    go_enter Try.func64, Try.ntmps64
    go_wp2_with fail
    refine (vright_calls _ HA.out (by omega) (fun p hp => Nat.le_trans (HSA.out p hp) (by decide))).mono ?_
    rw [HRA.out]
    rintro e w1 ⟨rfl, hb⟩
    go_wp2_with fail
    go_ret2
    exact vecOut_nil HE.out hb
  | true =>
    have HRA := Lib.hid hra
    clear hra
    cases hrb : rightV vb with
    | false =>
      have HRB := Lib.hid hrb
      have HE := Lib.hid (bothR_bad (f := f) (a := va) (.inr hrb))
      clear hrb
      go_enter Try.func64, Try.ntmps64
      go_wp2_with fail
      refine (vright_calls _ HA.out (by omega) (fun p hp => Nat.le_trans (HSA.out p hp) (by decide))).mono ?_
      rw [HRA.out]
      rintro e w1 ⟨rfl, hb⟩
      have hB := bl_next hB hb
      clear hb
      go_wp2_with fail
      refine (vright_calls _ (HB.out.below hB) (by omega) (fun p hp => Nat.le_trans (HSB.out p hp) (by decide))).mono ?_
      rw [HRB.out]
      rintro e w2 ⟨rfl, hb⟩
      go_wp2_with fail
      go_ret2
      exact vecOut_nil HE.out (bl_next hB hb)
    | true =>
      have HRB := Lib.hid hrb
      clear hrb
      have hmm := @run_makeMap Try.prog
      go_enter Try.func64, Try.ntmps64
      go_wp2_with fail
      refine (vright_calls _ HA.out (by omega) (fun p hp => Nat.le_trans (HSA.out p hp) (by decide))).mono ?_
      rw [HRA.out]
      rintro e w1 ⟨rfl, hb⟩
      have hB := bl_next hB hb
      clear hb
      go_wp2_with fail
      refine (vright_calls _ (HB.out.below hB) (by omega) (fun p hp => Nat.le_trans (HSB.out p hp) (by decide))).mono ?_
      rw [HRB.out]
      rintro e w2 ⟨rfl, hb⟩
      have HB2 := Lib.hid (bl_next hB hb)
      clear hb hB
      obtain ⟨V0, rfl⟩ : ∃ V0 : World, V0 = w2 := ⟨_, rfl⟩
      have HO := Lib.hid (World.ownsMap_made V0 Try.prog 9 RV)
      have HV0 := HB2.out.size
      go_wp2_with fail
      clear hmm hrun
      have hcx : Below w.heap.size w ((V0.alloc (.map #[] 0)).alloc (.cells #[.slice aa va.length ca, .slice ab vb.length cb'] 30)) := (HB2.out.alloc HV0 _).alloc (by simp; omega) _
      refine (concat_calls _ (a := va) (b := vb) (blk_new1 V0 _ _) (HA.out.below hcx) (HB.out.below hcx) ⟨by omega, by omega⟩).mono ?_
      rintro e w3 ⟨x, rfl, hrow, hb⟩
      have HB3 := Lib.hid (hcx.trans (hb.mono hcx.size))
      have HM0 : Hid (WMap w3 V0.heap.size []) := Lib.hid (by
        have h1 : WMap (V0.alloc (.map #[] 0)) V0.heap.size [] := mv_tight HO.out
        exact (h1.below ((Below.refl _ _).alloc (Nat.le_refl _) _)).below hb)
      obtain ⟨mb, hmb⟩ : ∃ mb, mb = V0.heap.size := ⟨_, rfl⟩
      rw [← hmb] at HM0 ⊢
      have HMB := Lib.hid (show w.heap.size ≤ mb by omega)
      obtain ⟨C, hC⟩ : ∃ C, va ++ vb = C := ⟨_, rfl⟩
      have HCS := Lib.hid (show ∀ p ∈ C, p.1.size ≤ 1000 ∧ wIn p.2 = true from fun p hp => by
        rw [← hC] at hp
        rcases List.mem_append.1 hp with q | q
        · exact ⟨HSA.out p q, HA.out.2 p q⟩
        · exact ⟨HSB.out p q, HB.out.2 p q⟩)
      have hCl : C.length ≤ 800 := by rw [← hC, List.length_append]; omega
      have HK := Lib.hid (show keysA va ++ keysA vb = keysA C by rw [← hC]; simp [keysA])
      rw [hC] at hrow
      obtain ⟨ax, cx, rfl⟩ := rw_form hrow
      have HX := Lib.hid (show VecS w3 (.slice ax C.length cx) C from ⟨sliS_of hrow, fun p hp => (HCS.out p hp).2⟩)
      clear hrow hb hcx HO HB2 HV0 hC hmb V0
      obtain ⟨V3, rfl⟩ : ∃ V3 : World, V3 = w3 := ⟨_, rfl⟩
      go_wp2_with fail
      go_loopw [27] (fun i wr => ∃ k : Nat, i = .int .i64 k ∧ k ≤ C.length ∧ Hid (((keysA C).take k).all (fun n => wIn (f (getV va n) (getV vb n))) = true) ∧ Hid (WMap wr mb (foldB f va vb ((keysA C).take k))) ∧ Hid (VecS wr (.slice ax C.length cx) C) ∧ Hid (Below w.heap.size w wr)) (fun i _ => C.length - (intOf i).toNat)
      case atStart => exact ⟨0, rfl, Nat.zero_le _, Lib.hid rfl, HM0, HX, HB3⟩
      case round =>
        clear HM0 HB3 HX
        obtain ⟨k, rfl, hk, HALL, HM, HXr, HBr⟩ := hrel
        by_cases hkl : k < C.length
        · have hkI : (k : Int) < C.length := by omega
          obtain ⟨b0, o, c, he, q0, q1, q2, hin⟩ := HXr.out.at' hkl
          cases he
          have hka : k < (keysA C).length := by rw [keysA_len]; exact hkl
          have hsz := (HCS.out _ (List.getElem_mem hkl)).1
          have hn : (keysA C)[k]'hka = (C[k]'hkl).1 := by simp [keysA]
          have HSTEP := Lib.hid (foldB_succ (f := f) (a := va) (b := vb) hka)
          have HASTEP := Lib.hid (show wIn (f (getV va (C[k]'hkl).1) (getV vb (C[k]'hkl).1)) = true → ((keysA C).take (k + 1)).all (fun n => wIn (f (getV va n) (getV vb n))) = true from fun e => by
            rw [List.take_succ_eq_append_getElem hka, List.all_append, HALL.out, hn]; simp [e])
          have HOUT := Lib.hid (show wIn (f (getV va (C[k]'hkl).1) (getV vb (C[k]'hkl).1)) = false → bothR f va vb = (3, []) from fun e => by
            unfold bothR allIn
            rw [HRA.out, HRB.out, HK.out, if_neg (by simp), if_neg]
            rw [List.all_eq_true]
            intro hall
            have := hall _ (List.getElem_mem hka)
            rw [hn, e] at this; cases this)
          rw [hn] at HSTEP
          have hml : (foldB f va vb ((keysA C).take k)).length ≤ 800 := by have := foldB_len f va vb ((keysA C).take k); rw [List.length_take] at this; omega
          obtain ⟨M, hM⟩ : ∃ M, foldB f va vb ((keysA C).take k) = M := ⟨_, rfl⟩
          rw [hM] at HM HSTEP hml
          obtain ⟨p, hp⟩ : ∃ p, C[k]'hkl = p := ⟨_, rfl⟩
          rw [hp] at q0 q1 q2 hsz HSTEP HASTEP HOUT
          clear hp hM hin hn hka
          have HIA := Lib.hid (getV_in HA.out.2 p.1)
          have HIB := Lib.hid (getV_in HB.out.2 p.1)
          obtain ⟨U, rfl⟩ : ∃ U : World, U = wr := ⟨_, rfl⟩
          have hVw := HBr.out.size
          go_upto_region 7 with fail
          first | with_reducible refine name_wp ?_ | with_reducible refine name_calls ?_
          intro V hWeq
          have g0 : V.heap[U.heap.size]? = some (.cells #[.string p.1, .int .i64 (whi p.2), .int .u64 (wlo p.2)] 64) := by rw [hWeq]; repeat (first | (with_reducible exact blk_newAt _ _ (by simp)) | with_reducible refine blk_drew ?_ | with_reducible refine blk_dN ?_ _ | with_reducible refine blk_old ?_ _)
          have hw : Below U.heap.size U V := by rw [hWeq]; repeat (first | with_reducible exact Below.refl _ _ | with_reducible refine Below.drew ?_ | with_reducible refine bl_dN ?_ _ | with_reducible refine Below.alloc ?_ (by simp <;> omega) _)
          clear hWeq
          have hz : U.heap.size + 1 ≤ V.heap.size := by have := blk_lt g0; omega
          have c0_0 : V.cell? ⟨U.heap.size, 0, none⟩ = some (.string p.1) := blk_cell g0 0
          have c0_1 : V.cell? ⟨U.heap.size, 1, none⟩ = some (.int .i64 (whi p.2)) := blk_cell g0 1
          have c0_2 : V.cell? ⟨U.heap.size, 2, none⟩ = some (.int .u64 (wlo p.2)) := blk_cell g0 2
          have f0 : ∀ j, V.frozen? ⟨U.heap.size, j, none⟩ = false := blk_free g0
          have hB : Below V.heap.size V V := Below.refl _ _
          have G0 := Lib.hid g0; clear g0
          have F0 := Lib.hid f0; clear f0
          have Hw := Lib.hid hw; clear hw
          have HBV0 := Lib.hid (HBr.out.trans (Hw.out.mono hVw))
          have HAV := Lib.hid (HA.out.below HBV0.out)
          have HBV := Lib.hid (HB.out.below HBV0.out)
          have HMV := Lib.hid (HM.out.below Hw.out)
          have HXV := Lib.hid (HXr.out.below Hw.out)
          have hVw2 := HBV0.out.size
          clear q0 q1 q2
          cases hio : wIn (f (getV va p.1) (getV vb p.1)) with
          | true =>
            have HIN := Lib.hid hio
            clear hio
            go_cut [11, 12] from 32 to 43 (fun s11 s12 wc => ∃ b : Nat, s11 = .pointer (some ⟨b, 0, none⟩) ∧ s12 = .bool true ∧ wc.heap[b]? = some (.cells #[.int .i64 (whi (f (getV va p.1) (getV vb p.1))), .int .u64 (wlo (f (getV va p.1) (getV vb p.1)))] 40) ∧ V.heap.size ≤ b ∧ Below V.heap.size V wc)
            case first =>
              have hB := hB.drew
              refine region_plan (fun w' => Below V.heap.size V w') (.take 0 (.take 1 (.take 2 (.take 3 (.take 5 (.take 6 (.take 7 (.both 4 13 (.both 8 13 (.both 9 13 (.take 10 (.take 11 (.take 12 (.only 13 (.only 14 (.take 15 .done)))))) (.only 9 (.take 10 (.take 11 (.take 12 (.only 14 (.take 15 .done))))))) (.only 8 (.only 9 (.take 10 (.take 11 (.take 12 (.only 14 (.take 15 .done)))))))) (.only 4 (.only 8 (.only 9 (.take 10 (.take 11 (.take 12 (.only 14 (.take 15 .done)))))))))))))))) (by kernel_rfl) (by kernel_rfl) (fun _ _ _ _ h => h) hB ?_
              try generalize World.drew _ = wS at hB ⊢
              refine plan_take (v := ?_) (a' := ?_) (some 32) rfl rfl (by rfl) ?_ ?_ ?_
              rotate_left; rotate_left
              · intro w' hS; go_simp; with_reducible rfl
              · simp only [Act.put, List.setIfInBounds_toArray, List.set_cons_zero, List.set_cons_succ]; rfl
              refine plan_take (v := ?_) (a' := ?_) (some 33) rfl rfl (by rfl) ?_ ?_ ?_
              rotate_left; rotate_left
              · intro w' hS; go_simp; with_reducible rfl
              · simp only [Act.put, List.setIfInBounds_toArray, List.set_cons_zero, List.set_cons_succ]; rfl
              refine plan_take (v := ?_) (a' := ?_) (some 34) rfl rfl (by rfl) ?_ ?_ ?_
              rotate_left; rotate_left
              · intro w' hS; go_simp; with_reducible rfl
              · simp only [Act.put, List.setIfInBounds_toArray, List.set_cons_zero, List.set_cons_succ]; rfl
              refine plan_take (v := ?_) (a' := ?_) (some 35) rfl rfl (by rfl) ?_ ?_ ?_
              rotate_left; rotate_left
              · intro w' hS; have s0_0 := cb hS c0_0; have s0_1 := cb hS c0_1; have s0_2 := cb hS c0_2; go_simp; with_reducible rfl
              · simp only [Act.put, List.setIfInBounds_toArray, List.set_cons_zero, List.set_cons_succ]; rfl
              refine plan_take (v := ?_) (a' := ?_) (some 37) rfl rfl (by rfl) ?_ ?_ ?_
              rotate_left; rotate_left
              · intro w' hS; go_simp; with_reducible rfl
              · simp only [Act.put, List.setIfInBounds_toArray, List.set_cons_zero, List.set_cons_succ]; rfl
              refine plan_take (v := ?_) (a' := ?_) (some 38) rfl rfl (by rfl) ?_ ?_ ?_
              rotate_left; rotate_left
              · intro w' hS; go_simp; with_reducible rfl
              · simp only [Act.put, List.setIfInBounds_toArray, List.set_cons_zero, List.set_cons_succ]; rfl
              refine plan_take (v := ?_) (a' := ?_) (some 39) rfl rfl (by rfl) ?_ ?_ ?_
              rotate_left; rotate_left
              · intro w' hS; have s0_0 := cb hS c0_0; have s0_1 := cb hS c0_1; have s0_2 := cb hS c0_2; go_simp; with_reducible rfl
              · simp only [Act.put, List.setIfInBounds_toArray, List.set_cons_zero, List.set_cons_succ]; rfl
              refine plan_both ?_ ?_
              · refine plan_call (args := ?_) Try.func22 (by kernel_rfl) rfl (some 36) rfl rfl (by rfl) rfl ?_ ?_
                rotate_left
                · simp only [List.map_toArray, List.map_cons, List.map_nil]; go_simp; rfl
                with_reducible refine (vget_calls _ (HAV.out.below hB) p.1 (by omega)).mono ?_
                rintro e w' ⟨rfl, hb⟩
                unfold wideV
                refine ⟨_, rfl, bl_next hB hb, ?_⟩
                have hB := bl_next hB hb; clear hb
                simp only [Act.put, List.setIfInBounds_toArray, List.set_cons_zero, List.set_cons_succ]
                refine plan_both ?_ ?_
                · refine plan_call (args := ?_) Try.func22 (by kernel_rfl) rfl (some 40) rfl rfl (by rfl) rfl ?_ ?_
                  rotate_left
                  · simp only [List.map_toArray, List.map_cons, List.map_nil]; go_simp; rfl
                  with_reducible refine (vget_calls _ (HBV.out.below hB) p.1 (by omega)).mono ?_
                  rintro e w' ⟨rfl, hb⟩
                  unfold wideV
                  refine ⟨_, rfl, bl_next hB hb, ?_⟩
                  have hB := bl_next hB hb; clear hb
                  simp only [Act.put, List.setIfInBounds_toArray, List.set_cons_zero, List.set_cons_succ]
                  refine plan_both ?_ ?_
                  · refine plan_callO (args := ?_) HF.out HNAME.out HBODY.out (some 41) rfl rfl (by rfl) rfl rfl ?_ ?_
                    rotate_left
                    · simp only [List.map_toArray, List.map_cons, List.map_nil]; go_simp; rfl
                    with_reducible refine (HDOES.out (getV va p.1) (getV vb p.1) _ HIA.out HIB.out).mono ?_
                    rintro e w' ⟨rfl, hb⟩
                    rw [wres_in HIN.out]
                    refine ⟨_, rfl, bl_next hB hb, ?_⟩
                    have hB := bl_next hB hb; clear hb
                    simp only [Act.put, List.setIfInBounds_toArray, List.set_cons_zero, List.set_cons_succ]
                    refine plan_take (v := ?_) (a' := ?_) (some 31) rfl rfl (by rfl) ?_ ?_ ?_
                    rotate_left; rotate_left
                    · intro w' hS; go_simp; with_reducible rfl
                    · simp only [Act.put, List.setIfInBounds_toArray, List.set_cons_zero, List.set_cons_succ]; rfl
                    refine plan_take (v := ?_) (a' := ?_) (some 42) rfl rfl (by rfl) ?_ ?_ ?_
                    rotate_left; rotate_left
                    · intro w' hS; go_simp; with_reducible rfl
                    · simp only [Act.put, List.setIfInBounds_toArray, List.set_cons_zero, List.set_cons_succ]; rfl
                    refine plan_take (v := ?_) (a' := ?_) (some 43) rfl rfl (by rfl) ?_ ?_ ?_
                    rotate_left; rotate_left
                    · intro w' hS; go_simp; with_reducible rfl
                    · simp only [Act.put, List.setIfInBounds_toArray, List.set_cons_zero, List.set_cons_succ]; rfl
                    refine plan_op (some 11) rfl rfl (by rfl) ?_
                    apply Exists.intro; apply Exists.intro; apply And.intro
                    · go_simp; first | exact ⟨rfl, rfl⟩ | rfl
                    apply Exists.intro; apply And.intro
                    · simp only [Act.put, List.setIfInBounds_toArray, List.set_cons_zero, List.set_cons_succ]; rfl
                    apply And.intro
                    · exact Below.alloc hB hB.size _
                    have hbV := hB.size
                    refine plan_named ?_; intro wA gA hbA; have hB := bl_next hB hbA; clear hbA
                    have hlA := blk_lt gA
                    have cA0 : _ = some _ := blk_cell gA 0
                    have fA0 := blk_free gA 0
                    have cA1 : _ = some _ := blk_cell gA 1
                    have fA1 := blk_free gA 1
                    refine plan_store none rfl rfl (by rfl) ?_
                    apply Exists.intro; apply And.intro
                    · go_simp; first | exact ⟨rfl, rfl⟩ | rfl
                    apply Exists.intro; apply And.intro
                    · simp only [Act.put, List.setIfInBounds_toArray, List.set_cons_zero, List.set_cons_succ]; rfl
                    apply And.intro
                    · exact Below.setCell (Below.setCell hB hbV _) hbV _
                    clear cA0 fA0 cA1 fA1
                    refine plan_set2 gA hB hbV ?_; clear gA hB hlA; intro wB gA hB
                    refine plan_take (v := ?_) (a' := ?_) (some 12) rfl rfl (by rfl) ?_ ?_ ?_
                    rotate_left; rotate_left
                    · intro w' hS; go_simp; with_reducible rfl
                    · simp only [Act.put, List.setIfInBounds_toArray, List.set_cons_zero, List.set_cons_succ]; rfl
                    refine plan_done ?_
                    go_wp2_with fail
                    go_meet
                    exact ⟨_, rfl, rfl, gA, hbV, hB⟩
                  · refine plan_op (some 11) rfl rfl (by rfl) ?_
                    apply Exists.intro; apply Exists.intro; apply And.intro
                    · go_simp; first | exact ⟨rfl, rfl⟩ | rfl
                    apply Exists.intro; apply And.intro
                    · simp only [Act.put, List.setIfInBounds_toArray, List.set_cons_zero, List.set_cons_succ]; rfl
                    apply And.intro
                    · exact Below.alloc hB hB.size _
                    have hbV := hB.size
                    refine plan_named ?_; intro wA gA hbA; have hB := bl_next hB hbA; clear hbA
                    refine plan_callO (args := ?_) HF.out HNAME.out HBODY.out (some 41) rfl rfl (by rfl) rfl rfl ?_ ?_
                    rotate_left
                    · simp only [List.map_toArray, List.map_cons, List.map_nil]; go_simp; rfl
                    with_reducible refine (HDOES.out (getV va p.1) (getV vb p.1) _ HIA.out HIB.out).mono ?_
                    rintro e w' ⟨rfl, hb⟩
                    rw [wres_in HIN.out]
                    refine ⟨_, rfl, bl_next hB hb, ?_⟩
                    have gA := blk_below gA hb
                    have hB := bl_next hB hb; clear hb
                    simp only [Act.put, List.setIfInBounds_toArray, List.set_cons_zero, List.set_cons_succ]
                    refine plan_take (v := ?_) (a' := ?_) (some 31) rfl rfl (by rfl) ?_ ?_ ?_
                    rotate_left; rotate_left
                    · intro w' hS; go_simp; with_reducible rfl
                    · simp only [Act.put, List.setIfInBounds_toArray, List.set_cons_zero, List.set_cons_succ]; rfl
                    refine plan_take (v := ?_) (a' := ?_) (some 42) rfl rfl (by rfl) ?_ ?_ ?_
                    rotate_left; rotate_left
                    · intro w' hS; go_simp; with_reducible rfl
                    · simp only [Act.put, List.setIfInBounds_toArray, List.set_cons_zero, List.set_cons_succ]; rfl
                    refine plan_take (v := ?_) (a' := ?_) (some 43) rfl rfl (by rfl) ?_ ?_ ?_
                    rotate_left; rotate_left
                    · intro w' hS; go_simp; with_reducible rfl
                    · simp only [Act.put, List.setIfInBounds_toArray, List.set_cons_zero, List.set_cons_succ]; rfl
                    have hlA := blk_lt gA
                    have cA0 : _ = some _ := blk_cell gA 0
                    have fA0 := blk_free gA 0
                    have cA1 : _ = some _ := blk_cell gA 1
                    have fA1 := blk_free gA 1
                    refine plan_store none rfl rfl (by rfl) ?_
                    apply Exists.intro; apply And.intro
                    · go_simp; first | exact ⟨rfl, rfl⟩ | rfl
                    apply Exists.intro; apply And.intro
                    · simp only [Act.put, List.setIfInBounds_toArray, List.set_cons_zero, List.set_cons_succ]; rfl
                    apply And.intro
                    · exact Below.setCell (Below.setCell hB hbV _) hbV _
                    clear cA0 fA0 cA1 fA1
                    refine plan_set2 gA hB hbV ?_; clear gA hB hlA; intro wB gA hB
                    refine plan_take (v := ?_) (a' := ?_) (some 12) rfl rfl (by rfl) ?_ ?_ ?_
                    rotate_left; rotate_left
                    · intro w' hS; go_simp; with_reducible rfl
                    · simp only [Act.put, List.setIfInBounds_toArray, List.set_cons_zero, List.set_cons_succ]; rfl
                    refine plan_done ?_
                    go_wp2_with fail
                    go_meet
                    exact ⟨_, rfl, rfl, gA, hbV, hB⟩
                · refine plan_op (some 11) rfl rfl (by rfl) ?_
                  apply Exists.intro; apply Exists.intro; apply And.intro
                  · go_simp; first | exact ⟨rfl, rfl⟩ | rfl
                  apply Exists.intro; apply And.intro
                  · simp only [Act.put, List.setIfInBounds_toArray, List.set_cons_zero, List.set_cons_succ]; rfl
                  apply And.intro
                  · exact Below.alloc hB hB.size _
                  have hbV := hB.size
                  refine plan_named ?_; intro wA gA hbA; have hB := bl_next hB hbA; clear hbA
                  refine plan_call (args := ?_) Try.func22 (by kernel_rfl) rfl (some 40) rfl rfl (by rfl) rfl ?_ ?_
                  rotate_left
                  · simp only [List.map_toArray, List.map_cons, List.map_nil]; go_simp; rfl
                  with_reducible refine (vget_calls _ (HBV.out.below hB) p.1 (by omega)).mono ?_
                  rintro e w' ⟨rfl, hb⟩
                  unfold wideV
                  refine ⟨_, rfl, bl_next hB hb, ?_⟩
                  have gA := blk_below gA hb
                  have hB := bl_next hB hb; clear hb
                  simp only [Act.put, List.setIfInBounds_toArray, List.set_cons_zero, List.set_cons_succ]
                  refine plan_callO (args := ?_) HF.out HNAME.out HBODY.out (some 41) rfl rfl (by rfl) rfl rfl ?_ ?_
                  rotate_left
                  · simp only [List.map_toArray, List.map_cons, List.map_nil]; go_simp; rfl
                  with_reducible refine (HDOES.out (getV va p.1) (getV vb p.1) _ HIA.out HIB.out).mono ?_
                  rintro e w' ⟨rfl, hb⟩
                  rw [wres_in HIN.out]
                  refine ⟨_, rfl, bl_next hB hb, ?_⟩
                  have gA := blk_below gA hb
                  have hB := bl_next hB hb; clear hb
                  simp only [Act.put, List.setIfInBounds_toArray, List.set_cons_zero, List.set_cons_succ]
                  refine plan_take (v := ?_) (a' := ?_) (some 31) rfl rfl (by rfl) ?_ ?_ ?_
                  rotate_left; rotate_left
                  · intro w' hS; go_simp; with_reducible rfl
                  · simp only [Act.put, List.setIfInBounds_toArray, List.set_cons_zero, List.set_cons_succ]; rfl
                  refine plan_take (v := ?_) (a' := ?_) (some 42) rfl rfl (by rfl) ?_ ?_ ?_
                  rotate_left; rotate_left
                  · intro w' hS; go_simp; with_reducible rfl
                  · simp only [Act.put, List.setIfInBounds_toArray, List.set_cons_zero, List.set_cons_succ]; rfl
                  refine plan_take (v := ?_) (a' := ?_) (some 43) rfl rfl (by rfl) ?_ ?_ ?_
                  rotate_left; rotate_left
                  · intro w' hS; go_simp; with_reducible rfl
                  · simp only [Act.put, List.setIfInBounds_toArray, List.set_cons_zero, List.set_cons_succ]; rfl
                  have hlA := blk_lt gA
                  have cA0 : _ = some _ := blk_cell gA 0
                  have fA0 := blk_free gA 0
                  have cA1 : _ = some _ := blk_cell gA 1
                  have fA1 := blk_free gA 1
                  refine plan_store none rfl rfl (by rfl) ?_
                  apply Exists.intro; apply And.intro
                  · go_simp; first | exact ⟨rfl, rfl⟩ | rfl
                  apply Exists.intro; apply And.intro
                  · simp only [Act.put, List.setIfInBounds_toArray, List.set_cons_zero, List.set_cons_succ]; rfl
                  apply And.intro
                  · exact Below.setCell (Below.setCell hB hbV _) hbV _
                  clear cA0 fA0 cA1 fA1
                  refine plan_set2 gA hB hbV ?_; clear gA hB hlA; intro wB gA hB
                  refine plan_take (v := ?_) (a' := ?_) (some 12) rfl rfl (by rfl) ?_ ?_ ?_
                  rotate_left; rotate_left
                  · intro w' hS; go_simp; with_reducible rfl
                  · simp only [Act.put, List.setIfInBounds_toArray, List.set_cons_zero, List.set_cons_succ]; rfl
                  refine plan_done ?_
                  go_wp2_with fail
                  go_meet
                  exact ⟨_, rfl, rfl, gA, hbV, hB⟩
              · refine plan_op (some 11) rfl rfl (by rfl) ?_
                apply Exists.intro; apply Exists.intro; apply And.intro
                · go_simp; first | exact ⟨rfl, rfl⟩ | rfl
                apply Exists.intro; apply And.intro
                · simp only [Act.put, List.setIfInBounds_toArray, List.set_cons_zero, List.set_cons_succ]; rfl
                apply And.intro
                · exact Below.alloc hB hB.size _
                have hbV := hB.size
                refine plan_named ?_; intro wA gA hbA; have hB := bl_next hB hbA; clear hbA
                refine plan_call (args := ?_) Try.func22 (by kernel_rfl) rfl (some 36) rfl rfl (by rfl) rfl ?_ ?_
                rotate_left
                · simp only [List.map_toArray, List.map_cons, List.map_nil]; go_simp; rfl
                with_reducible refine (vget_calls _ (HAV.out.below hB) p.1 (by omega)).mono ?_
                rintro e w' ⟨rfl, hb⟩
                unfold wideV
                refine ⟨_, rfl, bl_next hB hb, ?_⟩
                have gA := blk_below gA hb
                have hB := bl_next hB hb; clear hb
                simp only [Act.put, List.setIfInBounds_toArray, List.set_cons_zero, List.set_cons_succ]
                refine plan_call (args := ?_) Try.func22 (by kernel_rfl) rfl (some 40) rfl rfl (by rfl) rfl ?_ ?_
                rotate_left
                · simp only [List.map_toArray, List.map_cons, List.map_nil]; go_simp; rfl
                with_reducible refine (vget_calls _ (HBV.out.below hB) p.1 (by omega)).mono ?_
                rintro e w' ⟨rfl, hb⟩
                unfold wideV
                refine ⟨_, rfl, bl_next hB hb, ?_⟩
                have gA := blk_below gA hb
                have hB := bl_next hB hb; clear hb
                simp only [Act.put, List.setIfInBounds_toArray, List.set_cons_zero, List.set_cons_succ]
                refine plan_callO (args := ?_) HF.out HNAME.out HBODY.out (some 41) rfl rfl (by rfl) rfl rfl ?_ ?_
                rotate_left
                · simp only [List.map_toArray, List.map_cons, List.map_nil]; go_simp; rfl
                with_reducible refine (HDOES.out (getV va p.1) (getV vb p.1) _ HIA.out HIB.out).mono ?_
                rintro e w' ⟨rfl, hb⟩
                rw [wres_in HIN.out]
                refine ⟨_, rfl, bl_next hB hb, ?_⟩
                have gA := blk_below gA hb
                have hB := bl_next hB hb; clear hb
                simp only [Act.put, List.setIfInBounds_toArray, List.set_cons_zero, List.set_cons_succ]
                refine plan_take (v := ?_) (a' := ?_) (some 31) rfl rfl (by rfl) ?_ ?_ ?_
                rotate_left; rotate_left
                · intro w' hS; go_simp; with_reducible rfl
                · simp only [Act.put, List.setIfInBounds_toArray, List.set_cons_zero, List.set_cons_succ]; rfl
                refine plan_take (v := ?_) (a' := ?_) (some 42) rfl rfl (by rfl) ?_ ?_ ?_
                rotate_left; rotate_left
                · intro w' hS; go_simp; with_reducible rfl
                · simp only [Act.put, List.setIfInBounds_toArray, List.set_cons_zero, List.set_cons_succ]; rfl
                refine plan_take (v := ?_) (a' := ?_) (some 43) rfl rfl (by rfl) ?_ ?_ ?_
                rotate_left; rotate_left
                · intro w' hS; go_simp; with_reducible rfl
                · simp only [Act.put, List.setIfInBounds_toArray, List.set_cons_zero, List.set_cons_succ]; rfl
                have hlA := blk_lt gA
                have cA0 : _ = some _ := blk_cell gA 0
                have fA0 := blk_free gA 0
                have cA1 : _ = some _ := blk_cell gA 1
                have fA1 := blk_free gA 1
                refine plan_store none rfl rfl (by rfl) ?_
                apply Exists.intro; apply And.intro
                · go_simp; first | exact ⟨rfl, rfl⟩ | rfl
                apply Exists.intro; apply And.intro
                · simp only [Act.put, List.setIfInBounds_toArray, List.set_cons_zero, List.set_cons_succ]; rfl
                apply And.intro
                · exact Below.setCell (Below.setCell hB hbV _) hbV _
                clear cA0 fA0 cA1 fA1
                refine plan_set2 gA hB hbV ?_; clear gA hB hlA; intro wB gA hB
                refine plan_take (v := ?_) (a' := ?_) (some 12) rfl rfl (by rfl) ?_ ?_ ?_
                rotate_left; rotate_left
                · intro w' hS; go_simp; with_reducible rfl
                · simp only [Act.put, List.setIfInBounds_toArray, List.set_cons_zero, List.set_cons_succ]; rfl
                refine plan_done ?_
                go_wp2_with fail
                go_meet
                exact ⟨_, rfl, rfl, gA, hbV, hB⟩
            case rest =>
              obtain ⟨b1, rfl, rfl, gK, hbK, hcB⟩ := hcut
              obtain ⟨V1, rfl⟩ : ∃ V1 : World, V1 = wc := ⟨_, rfl⟩
              have c0_0 := cb hcB c0_0
              have c0_1 := cb hcB c0_1
              have c0_2 := cb hcB c0_2
              have c1_0 : V1.cell? ⟨b1, 0, none⟩ = some (.int .i64 (whi (f (getV va p.1) (getV vb p.1)))) := blk_cell gK 0
              have c1_1 : V1.cell? ⟨b1, 1, none⟩ = some (.int .u64 (wlo (f (getV va p.1) (getV vb p.1)))) := blk_cell gK 1
              have F1 := Lib.hid (fun j => blk_free gK j)
              have HB_V1 := Lib.hid hcB
              have Hw := Lib.hid (bl_from Hw.out hcB)
              clear hcB hbK gK
              try clear hB
              have hB : Below V1.heap.size V1 V1 := Below.refl _ _
              have kz0 : U.heap.size < V1.heap.size := lt_of_cell c0_0
              have kz1 : b1 < V1.heap.size := lt_of_cell c1_0
              have HM1 := Lib.hid (HMV.out.below HB_V1.out)
              go_wp2_with (at_mapUpdate; refine wpList_mapUpdate_own _ rfl _ _ _ 83 rfl 9 40 kB_keyed Try.underlying83 _ mb M.length (dmA kB wideV M) rfl HM1.out (by unfold maxLen; omega) _ _ _ rfl rfl (kB_key (by unfold maxLen; omega)) (.held (wideV (f (getV va p.1) (getV vb p.1)))) [] rfl ?_; intro w5 hown5 hgrow5)
              have HM5 := Lib.hid (wmap_put hown5)
              have h9 := HBV0.out.trans (HB_V1.out.mono hVw2)
              have HB5 := Lib.hid (h9.grown hgrow5 h9.size (fun k e => by cases e; exact HMB.out))
              have HX5 := Lib.hid (show VecS w5 (.slice (some ⟨b0, o, none⟩) C.length cx) C from (HXV.out.below HB_V1.out).turned HM1.out hgrow5)
              clear hown5 hgrow5 h9
              go_wp2_with fail
              go_roundw
              case rel => exact ⟨k + 1, by simp, by omega, Lib.hid (HASTEP.out HIN.out), by rw [HSTEP.out]; exact HM5, HX5, HB5⟩
              case measure => simp [intOf]; omega
          | false =>
            have HIN := Lib.hid hio
            have HE := Lib.hid (HOUT.out hio)
            clear hio
            go_cut [11, 12] from 32 to 43 (fun s11 s12 wc => ∃ b : Nat, s11 = .pointer (some ⟨b, 0, none⟩) ∧ s12 = .bool false ∧ wc.heap[b]? = some (.cells #[.int .i64 (0), .int .u64 (0)] 40) ∧ V.heap.size ≤ b ∧ Below V.heap.size V wc)
            case first =>
              have hB := hB.drew
              refine region_plan (fun w' => Below V.heap.size V w') (.take 0 (.take 1 (.take 2 (.take 3 (.take 5 (.take 6 (.take 7 (.both 4 13 (.both 8 13 (.both 9 13 (.take 10 (.take 11 (.take 12 (.only 13 (.only 14 (.take 15 .done)))))) (.only 9 (.take 10 (.take 11 (.take 12 (.only 14 (.take 15 .done))))))) (.only 8 (.only 9 (.take 10 (.take 11 (.take 12 (.only 14 (.take 15 .done)))))))) (.only 4 (.only 8 (.only 9 (.take 10 (.take 11 (.take 12 (.only 14 (.take 15 .done)))))))))))))))) (by kernel_rfl) (by kernel_rfl) (fun _ _ _ _ h => h) hB ?_
              try generalize World.drew _ = wS at hB ⊢
              refine plan_take (v := ?_) (a' := ?_) (some 32) rfl rfl (by rfl) ?_ ?_ ?_
              rotate_left; rotate_left
              · intro w' hS; go_simp; with_reducible rfl
              · simp only [Act.put, List.setIfInBounds_toArray, List.set_cons_zero, List.set_cons_succ]; rfl
              refine plan_take (v := ?_) (a' := ?_) (some 33) rfl rfl (by rfl) ?_ ?_ ?_
              rotate_left; rotate_left
              · intro w' hS; go_simp; with_reducible rfl
              · simp only [Act.put, List.setIfInBounds_toArray, List.set_cons_zero, List.set_cons_succ]; rfl
              refine plan_take (v := ?_) (a' := ?_) (some 34) rfl rfl (by rfl) ?_ ?_ ?_
              rotate_left; rotate_left
              · intro w' hS; go_simp; with_reducible rfl
              · simp only [Act.put, List.setIfInBounds_toArray, List.set_cons_zero, List.set_cons_succ]; rfl
              refine plan_take (v := ?_) (a' := ?_) (some 35) rfl rfl (by rfl) ?_ ?_ ?_
              rotate_left; rotate_left
              · intro w' hS; have s0_0 := cb hS c0_0; have s0_1 := cb hS c0_1; have s0_2 := cb hS c0_2; go_simp; with_reducible rfl
              · simp only [Act.put, List.setIfInBounds_toArray, List.set_cons_zero, List.set_cons_succ]; rfl
              refine plan_take (v := ?_) (a' := ?_) (some 37) rfl rfl (by rfl) ?_ ?_ ?_
              rotate_left; rotate_left
              · intro w' hS; go_simp; with_reducible rfl
              · simp only [Act.put, List.setIfInBounds_toArray, List.set_cons_zero, List.set_cons_succ]; rfl
              refine plan_take (v := ?_) (a' := ?_) (some 38) rfl rfl (by rfl) ?_ ?_ ?_
              rotate_left; rotate_left
              · intro w' hS; go_simp; with_reducible rfl
              · simp only [Act.put, List.setIfInBounds_toArray, List.set_cons_zero, List.set_cons_succ]; rfl
              refine plan_take (v := ?_) (a' := ?_) (some 39) rfl rfl (by rfl) ?_ ?_ ?_
              rotate_left; rotate_left
              · intro w' hS; have s0_0 := cb hS c0_0; have s0_1 := cb hS c0_1; have s0_2 := cb hS c0_2; go_simp; with_reducible rfl
              · simp only [Act.put, List.setIfInBounds_toArray, List.set_cons_zero, List.set_cons_succ]; rfl
              refine plan_both ?_ ?_
              · refine plan_call (args := ?_) Try.func22 (by kernel_rfl) rfl (some 36) rfl rfl (by rfl) rfl ?_ ?_
                rotate_left
                · simp only [List.map_toArray, List.map_cons, List.map_nil]; go_simp; rfl
                with_reducible refine (vget_calls _ (HAV.out.below hB) p.1 (by omega)).mono ?_
                rintro e w' ⟨rfl, hb⟩
                unfold wideV
                refine ⟨_, rfl, bl_next hB hb, ?_⟩
                have hB := bl_next hB hb; clear hb
                simp only [Act.put, List.setIfInBounds_toArray, List.set_cons_zero, List.set_cons_succ]
                refine plan_both ?_ ?_
                · refine plan_call (args := ?_) Try.func22 (by kernel_rfl) rfl (some 40) rfl rfl (by rfl) rfl ?_ ?_
                  rotate_left
                  · simp only [List.map_toArray, List.map_cons, List.map_nil]; go_simp; rfl
                  with_reducible refine (vget_calls _ (HBV.out.below hB) p.1 (by omega)).mono ?_
                  rintro e w' ⟨rfl, hb⟩
                  unfold wideV
                  refine ⟨_, rfl, bl_next hB hb, ?_⟩
                  have hB := bl_next hB hb; clear hb
                  simp only [Act.put, List.setIfInBounds_toArray, List.set_cons_zero, List.set_cons_succ]
                  refine plan_both ?_ ?_
                  · refine plan_callO (args := ?_) HF.out HNAME.out HBODY.out (some 41) rfl rfl (by rfl) rfl rfl ?_ ?_
                    rotate_left
                    · simp only [List.map_toArray, List.map_cons, List.map_nil]; go_simp; rfl
                    with_reducible refine (HDOES.out (getV va p.1) (getV vb p.1) _ HIA.out HIB.out).mono ?_
                    rintro e w' ⟨rfl, hb⟩
                    rw [wres_out HIN.out]
                    refine ⟨_, rfl, bl_next hB hb, ?_⟩
                    have hB := bl_next hB hb; clear hb
                    simp only [Act.put, List.setIfInBounds_toArray, List.set_cons_zero, List.set_cons_succ]
                    refine plan_take (v := ?_) (a' := ?_) (some 31) rfl rfl (by rfl) ?_ ?_ ?_
                    rotate_left; rotate_left
                    · intro w' hS; go_simp; with_reducible rfl
                    · simp only [Act.put, List.setIfInBounds_toArray, List.set_cons_zero, List.set_cons_succ]; rfl
                    refine plan_take (v := ?_) (a' := ?_) (some 42) rfl rfl (by rfl) ?_ ?_ ?_
                    rotate_left; rotate_left
                    · intro w' hS; go_simp; with_reducible rfl
                    · simp only [Act.put, List.setIfInBounds_toArray, List.set_cons_zero, List.set_cons_succ]; rfl
                    refine plan_take (v := ?_) (a' := ?_) (some 43) rfl rfl (by rfl) ?_ ?_ ?_
                    rotate_left; rotate_left
                    · intro w' hS; go_simp; with_reducible rfl
                    · simp only [Act.put, List.setIfInBounds_toArray, List.set_cons_zero, List.set_cons_succ]; rfl
                    refine plan_op (some 11) rfl rfl (by rfl) ?_
                    apply Exists.intro; apply Exists.intro; apply And.intro
                    · go_simp; first | exact ⟨rfl, rfl⟩ | rfl
                    apply Exists.intro; apply And.intro
                    · simp only [Act.put, List.setIfInBounds_toArray, List.set_cons_zero, List.set_cons_succ]; rfl
                    apply And.intro
                    · exact Below.alloc hB hB.size _
                    have hbV := hB.size
                    refine plan_named ?_; intro wA gA hbA; have hB := bl_next hB hbA; clear hbA
                    have hlA := blk_lt gA
                    have cA0 : _ = some _ := blk_cell gA 0
                    have fA0 := blk_free gA 0
                    have cA1 : _ = some _ := blk_cell gA 1
                    have fA1 := blk_free gA 1
                    refine plan_store none rfl rfl (by rfl) ?_
                    apply Exists.intro; apply And.intro
                    · go_simp; first | exact ⟨rfl, rfl⟩ | rfl
                    apply Exists.intro; apply And.intro
                    · simp only [Act.put, List.setIfInBounds_toArray, List.set_cons_zero, List.set_cons_succ]; rfl
                    apply And.intro
                    · exact Below.setCell (Below.setCell hB hbV _) hbV _
                    clear cA0 fA0 cA1 fA1
                    refine plan_set2 gA hB hbV ?_; clear gA hB hlA; intro wB gA hB
                    refine plan_take (v := ?_) (a' := ?_) (some 12) rfl rfl (by rfl) ?_ ?_ ?_
                    rotate_left; rotate_left
                    · intro w' hS; go_simp; with_reducible rfl
                    · simp only [Act.put, List.setIfInBounds_toArray, List.set_cons_zero, List.set_cons_succ]; rfl
                    refine plan_done ?_
                    go_wp2_with fail
                    go_meet
                    exact ⟨_, rfl, rfl, gA, hbV, hB⟩
                  · refine plan_op (some 11) rfl rfl (by rfl) ?_
                    apply Exists.intro; apply Exists.intro; apply And.intro
                    · go_simp; first | exact ⟨rfl, rfl⟩ | rfl
                    apply Exists.intro; apply And.intro
                    · simp only [Act.put, List.setIfInBounds_toArray, List.set_cons_zero, List.set_cons_succ]; rfl
                    apply And.intro
                    · exact Below.alloc hB hB.size _
                    have hbV := hB.size
                    refine plan_named ?_; intro wA gA hbA; have hB := bl_next hB hbA; clear hbA
                    refine plan_callO (args := ?_) HF.out HNAME.out HBODY.out (some 41) rfl rfl (by rfl) rfl rfl ?_ ?_
                    rotate_left
                    · simp only [List.map_toArray, List.map_cons, List.map_nil]; go_simp; rfl
                    with_reducible refine (HDOES.out (getV va p.1) (getV vb p.1) _ HIA.out HIB.out).mono ?_
                    rintro e w' ⟨rfl, hb⟩
                    rw [wres_out HIN.out]
                    refine ⟨_, rfl, bl_next hB hb, ?_⟩
                    have gA := blk_below gA hb
                    have hB := bl_next hB hb; clear hb
                    simp only [Act.put, List.setIfInBounds_toArray, List.set_cons_zero, List.set_cons_succ]
                    refine plan_take (v := ?_) (a' := ?_) (some 31) rfl rfl (by rfl) ?_ ?_ ?_
                    rotate_left; rotate_left
                    · intro w' hS; go_simp; with_reducible rfl
                    · simp only [Act.put, List.setIfInBounds_toArray, List.set_cons_zero, List.set_cons_succ]; rfl
                    refine plan_take (v := ?_) (a' := ?_) (some 42) rfl rfl (by rfl) ?_ ?_ ?_
                    rotate_left; rotate_left
                    · intro w' hS; go_simp; with_reducible rfl
                    · simp only [Act.put, List.setIfInBounds_toArray, List.set_cons_zero, List.set_cons_succ]; rfl
                    refine plan_take (v := ?_) (a' := ?_) (some 43) rfl rfl (by rfl) ?_ ?_ ?_
                    rotate_left; rotate_left
                    · intro w' hS; go_simp; with_reducible rfl
                    · simp only [Act.put, List.setIfInBounds_toArray, List.set_cons_zero, List.set_cons_succ]; rfl
                    have hlA := blk_lt gA
                    have cA0 : _ = some _ := blk_cell gA 0
                    have fA0 := blk_free gA 0
                    have cA1 : _ = some _ := blk_cell gA 1
                    have fA1 := blk_free gA 1
                    refine plan_store none rfl rfl (by rfl) ?_
                    apply Exists.intro; apply And.intro
                    · go_simp; first | exact ⟨rfl, rfl⟩ | rfl
                    apply Exists.intro; apply And.intro
                    · simp only [Act.put, List.setIfInBounds_toArray, List.set_cons_zero, List.set_cons_succ]; rfl
                    apply And.intro
                    · exact Below.setCell (Below.setCell hB hbV _) hbV _
                    clear cA0 fA0 cA1 fA1
                    refine plan_set2 gA hB hbV ?_; clear gA hB hlA; intro wB gA hB
                    refine plan_take (v := ?_) (a' := ?_) (some 12) rfl rfl (by rfl) ?_ ?_ ?_
                    rotate_left; rotate_left
                    · intro w' hS; go_simp; with_reducible rfl
                    · simp only [Act.put, List.setIfInBounds_toArray, List.set_cons_zero, List.set_cons_succ]; rfl
                    refine plan_done ?_
                    go_wp2_with fail
                    go_meet
                    exact ⟨_, rfl, rfl, gA, hbV, hB⟩
                · refine plan_op (some 11) rfl rfl (by rfl) ?_
                  apply Exists.intro; apply Exists.intro; apply And.intro
                  · go_simp; first | exact ⟨rfl, rfl⟩ | rfl
                  apply Exists.intro; apply And.intro
                  · simp only [Act.put, List.setIfInBounds_toArray, List.set_cons_zero, List.set_cons_succ]; rfl
                  apply And.intro
                  · exact Below.alloc hB hB.size _
                  have hbV := hB.size
                  refine plan_named ?_; intro wA gA hbA; have hB := bl_next hB hbA; clear hbA
                  refine plan_call (args := ?_) Try.func22 (by kernel_rfl) rfl (some 40) rfl rfl (by rfl) rfl ?_ ?_
                  rotate_left
                  · simp only [List.map_toArray, List.map_cons, List.map_nil]; go_simp; rfl
                  with_reducible refine (vget_calls _ (HBV.out.below hB) p.1 (by omega)).mono ?_
                  rintro e w' ⟨rfl, hb⟩
                  unfold wideV
                  refine ⟨_, rfl, bl_next hB hb, ?_⟩
                  have gA := blk_below gA hb
                  have hB := bl_next hB hb; clear hb
                  simp only [Act.put, List.setIfInBounds_toArray, List.set_cons_zero, List.set_cons_succ]
                  refine plan_callO (args := ?_) HF.out HNAME.out HBODY.out (some 41) rfl rfl (by rfl) rfl rfl ?_ ?_
                  rotate_left
                  · simp only [List.map_toArray, List.map_cons, List.map_nil]; go_simp; rfl
                  with_reducible refine (HDOES.out (getV va p.1) (getV vb p.1) _ HIA.out HIB.out).mono ?_
                  rintro e w' ⟨rfl, hb⟩
                  rw [wres_out HIN.out]
                  refine ⟨_, rfl, bl_next hB hb, ?_⟩
                  have gA := blk_below gA hb
                  have hB := bl_next hB hb; clear hb
                  simp only [Act.put, List.setIfInBounds_toArray, List.set_cons_zero, List.set_cons_succ]
                  refine plan_take (v := ?_) (a' := ?_) (some 31) rfl rfl (by rfl) ?_ ?_ ?_
                  rotate_left; rotate_left
                  · intro w' hS; go_simp; with_reducible rfl
                  · simp only [Act.put, List.setIfInBounds_toArray, List.set_cons_zero, List.set_cons_succ]; rfl
                  refine plan_take (v := ?_) (a' := ?_) (some 42) rfl rfl (by rfl) ?_ ?_ ?_
                  rotate_left; rotate_left
                  · intro w' hS; go_simp; with_reducible rfl
                  · simp only [Act.put, List.setIfInBounds_toArray, List.set_cons_zero, List.set_cons_succ]; rfl
                  refine plan_take (v := ?_) (a' := ?_) (some 43) rfl rfl (by rfl) ?_ ?_ ?_
                  rotate_left; rotate_left
                  · intro w' hS; go_simp; with_reducible rfl
                  · simp only [Act.put, List.setIfInBounds_toArray, List.set_cons_zero, List.set_cons_succ]; rfl
                  have hlA := blk_lt gA
                  have cA0 : _ = some _ := blk_cell gA 0
                  have fA0 := blk_free gA 0
                  have cA1 : _ = some _ := blk_cell gA 1
                  have fA1 := blk_free gA 1
                  refine plan_store none rfl rfl (by rfl) ?_
                  apply Exists.intro; apply And.intro
                  · go_simp; first | exact ⟨rfl, rfl⟩ | rfl
                  apply Exists.intro; apply And.intro
                  · simp only [Act.put, List.setIfInBounds_toArray, List.set_cons_zero, List.set_cons_succ]; rfl
                  apply And.intro
                  · exact Below.setCell (Below.setCell hB hbV _) hbV _
                  clear cA0 fA0 cA1 fA1
                  refine plan_set2 gA hB hbV ?_; clear gA hB hlA; intro wB gA hB
                  refine plan_take (v := ?_) (a' := ?_) (some 12) rfl rfl (by rfl) ?_ ?_ ?_
                  rotate_left; rotate_left
                  · intro w' hS; go_simp; with_reducible rfl
                  · simp only [Act.put, List.setIfInBounds_toArray, List.set_cons_zero, List.set_cons_succ]; rfl
                  refine plan_done ?_
                  go_wp2_with fail
                  go_meet
                  exact ⟨_, rfl, rfl, gA, hbV, hB⟩
              · refine plan_op (some 11) rfl rfl (by rfl) ?_
                apply Exists.intro; apply Exists.intro; apply And.intro
                · go_simp; first | exact ⟨rfl, rfl⟩ | rfl
                apply Exists.intro; apply And.intro
                · simp only [Act.put, List.setIfInBounds_toArray, List.set_cons_zero, List.set_cons_succ]; rfl
                apply And.intro
                · exact Below.alloc hB hB.size _
                have hbV := hB.size
                refine plan_named ?_; intro wA gA hbA; have hB := bl_next hB hbA; clear hbA
                refine plan_call (args := ?_) Try.func22 (by kernel_rfl) rfl (some 36) rfl rfl (by rfl) rfl ?_ ?_
                rotate_left
                · simp only [List.map_toArray, List.map_cons, List.map_nil]; go_simp; rfl
                with_reducible refine (vget_calls _ (HAV.out.below hB) p.1 (by omega)).mono ?_
                rintro e w' ⟨rfl, hb⟩
                unfold wideV
                refine ⟨_, rfl, bl_next hB hb, ?_⟩
                have gA := blk_below gA hb
                have hB := bl_next hB hb; clear hb
                simp only [Act.put, List.setIfInBounds_toArray, List.set_cons_zero, List.set_cons_succ]
                refine plan_call (args := ?_) Try.func22 (by kernel_rfl) rfl (some 40) rfl rfl (by rfl) rfl ?_ ?_
                rotate_left
                · simp only [List.map_toArray, List.map_cons, List.map_nil]; go_simp; rfl
                with_reducible refine (vget_calls _ (HBV.out.below hB) p.1 (by omega)).mono ?_
                rintro e w' ⟨rfl, hb⟩
                unfold wideV
                refine ⟨_, rfl, bl_next hB hb, ?_⟩
                have gA := blk_below gA hb
                have hB := bl_next hB hb; clear hb
                simp only [Act.put, List.setIfInBounds_toArray, List.set_cons_zero, List.set_cons_succ]
                refine plan_callO (args := ?_) HF.out HNAME.out HBODY.out (some 41) rfl rfl (by rfl) rfl rfl ?_ ?_
                rotate_left
                · simp only [List.map_toArray, List.map_cons, List.map_nil]; go_simp; rfl
                with_reducible refine (HDOES.out (getV va p.1) (getV vb p.1) _ HIA.out HIB.out).mono ?_
                rintro e w' ⟨rfl, hb⟩
                rw [wres_out HIN.out]
                refine ⟨_, rfl, bl_next hB hb, ?_⟩
                have gA := blk_below gA hb
                have hB := bl_next hB hb; clear hb
                simp only [Act.put, List.setIfInBounds_toArray, List.set_cons_zero, List.set_cons_succ]
                refine plan_take (v := ?_) (a' := ?_) (some 31) rfl rfl (by rfl) ?_ ?_ ?_
                rotate_left; rotate_left
                · intro w' hS; go_simp; with_reducible rfl
                · simp only [Act.put, List.setIfInBounds_toArray, List.set_cons_zero, List.set_cons_succ]; rfl
                refine plan_take (v := ?_) (a' := ?_) (some 42) rfl rfl (by rfl) ?_ ?_ ?_
                rotate_left; rotate_left
                · intro w' hS; go_simp; with_reducible rfl
                · simp only [Act.put, List.setIfInBounds_toArray, List.set_cons_zero, List.set_cons_succ]; rfl
                refine plan_take (v := ?_) (a' := ?_) (some 43) rfl rfl (by rfl) ?_ ?_ ?_
                rotate_left; rotate_left
                · intro w' hS; go_simp; with_reducible rfl
                · simp only [Act.put, List.setIfInBounds_toArray, List.set_cons_zero, List.set_cons_succ]; rfl
                have hlA := blk_lt gA
                have cA0 : _ = some _ := blk_cell gA 0
                have fA0 := blk_free gA 0
                have cA1 : _ = some _ := blk_cell gA 1
                have fA1 := blk_free gA 1
                refine plan_store none rfl rfl (by rfl) ?_
                apply Exists.intro; apply And.intro
                · go_simp; first | exact ⟨rfl, rfl⟩ | rfl
                apply Exists.intro; apply And.intro
                · simp only [Act.put, List.setIfInBounds_toArray, List.set_cons_zero, List.set_cons_succ]; rfl
                apply And.intro
                · exact Below.setCell (Below.setCell hB hbV _) hbV _
                clear cA0 fA0 cA1 fA1
                refine plan_set2 gA hB hbV ?_; clear gA hB hlA; intro wB gA hB
                refine plan_take (v := ?_) (a' := ?_) (some 12) rfl rfl (by rfl) ?_ ?_ ?_
                rotate_left; rotate_left
                · intro w' hS; go_simp; with_reducible rfl
                · simp only [Act.put, List.setIfInBounds_toArray, List.set_cons_zero, List.set_cons_succ]; rfl
                refine plan_done ?_
                go_wp2_with fail
                go_meet
                exact ⟨_, rfl, rfl, gA, hbV, hB⟩
            case rest =>
              obtain ⟨b1, rfl, rfl, gK, hbK, hcB⟩ := hcut
              obtain ⟨V1, rfl⟩ : ∃ V1 : World, V1 = wc := ⟨_, rfl⟩
              have c0_0 := cb hcB c0_0
              have c0_1 := cb hcB c0_1
              have c0_2 := cb hcB c0_2
              have c1_0 : V1.cell? ⟨b1, 0, none⟩ = some (.int .i64 (0)) := blk_cell gK 0
              have c1_1 : V1.cell? ⟨b1, 1, none⟩ = some (.int .u64 (0)) := blk_cell gK 1
              have F1 := Lib.hid (fun j => blk_free gK j)
              have HB_V1 := Lib.hid hcB
              have Hw := Lib.hid (bl_from Hw.out hcB)
              clear hcB hbK gK
              try clear hB
              have hB : Below V1.heap.size V1 V1 := Below.refl _ _
              have kz0 : U.heap.size < V1.heap.size := lt_of_cell c0_0
              have kz1 : b1 < V1.heap.size := lt_of_cell c1_0
              go_wp2_with fail
              go_ret2
              exact vecOut_nil HE.out (HBV0.out.trans (HB_V1.out.mono hVw2))
        · obtain rfl : k = C.length := by omega
          have hA := HALL.out; have hM := HM.out
          rw [← keysA_len C, List.take_length] at hA hM
          have hml : (foldB f va vb (keysA C)).length ≤ 800 := by have := foldB_len f va vb (keysA C); rw [keysA_len] at this; omega
          have HE := Lib.hid (show bothR f va vb = (0, someV (foldB f va vb (keysA C))) by
            unfold bothR bothV allIn
            rw [HRA.out, HRB.out, HK.out, if_neg (by simp), hA, if_pos rfl])
          have HM2 := Lib.hid hM
          have HN := Lib.hid (show ∀ q ∈ foldB f va vb (keysA C), q.1.size ≤ 1000 from fun q hq => by
            obtain ⟨r, hr, e⟩ := List.mem_map.1 (foldB_mem hq).1
            rw [← e]; exact (HCS.out r hr).1)
          clear hA hM
          go_wp2_with fail
          refine (made_calls _ HM2.out (foldB_rise f va vb _) HN.out (by omega)).mono ?_
          rintro e w4 ⟨y, rfl, hrow, hb⟩
          obtain ⟨ay, cy, rfl⟩ := rw_form hrow
          go_wp2_with fail
          go_ret2
          rw [HE.out]
          exact ⟨_, rfl, rw_mono hrow HBr.out.size, HBr.out.trans (hb.mono HBr.out.size)⟩
end Go.Proofs.Yteomicjjaajblaa

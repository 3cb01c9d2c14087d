import Derived.Test.YteomicjjaajblaaVcl
import Derived.Test.YteomicjjaajblaaBref
import Derived.Test.YteomicjjaajblaaBrefo
namespace Go.Proofs.Yteomicjjaajblaa
open Go.RowKit Go.Shelf Go.Maps
set_option linter.unusedVariables false
set_option linter.unusedSimpArgs false
theorem foldQ_bound {l : Res} (h : ∀ p ∈ l, 0 ≤ p.2 ∧ p.2 ≤ 9223372036854775807) (hl : l.length ≤ 900) (n : ByteArray) : 0 ≤ getV (foldQ l) n ∧ getV (foldQ l) n ≤ 900 * 9223372036854775807 := by
  rw [(foldQ_all l).2.2]
  have := foldO_bound h n
  exact ⟨this.1, Int.le_trans this.2 (Int.mul_le_mul_of_nonneg_right (by omega) (by decide))⟩
theorem foldQ_names {l : Res} {q : ByteArray × Int} (h : q ∈ foldQ l) : ∃ r ∈ l, q.1 = r.1 := by
  rw [foldQ_eq] at h
  exact foldO_names (List.mem_filter.1 h).1
theorem foldQ_len (l : Res) : (foldQ l).length ≤ l.length := by rw [foldQ_eq]; exact Nat.le_trans (someV_le _) (foldO_len l)
theorem good_res {l : Res} {k : Nat} (h : (l.take k).any badR = false) (hi : ∀ p ∈ l, in64 p.2) : ∀ p ∈ l.take k, 0 ≤ p.2 ∧ p.2 ≤ 9223372036854775807 := fun p hp => by
  have hn : badR p = false := by rw [List.any_eq_false] at h; simpa using h p hp
  unfold badR at hn
  rw [Bool.or_eq_false_iff] at hn
  have h2 := hi p (List.mem_of_mem_take hp)
  unfold in64 at h2
  have h3 := of_decide_eq_false hn.2
  omega
set_option maxRecDepth 100000 in
set_option maxHeartbeats 16000000 in
theorem rof4_calls (w : World) {x : Value} {l : Res} (h : ResS w x l) (hl : l.length ≤ 900) (hs : ∀ p ∈ l, p.1.size ≤ 1000) :
    Calls Try.prog 40 #[x] w (VecOut w (ofR l)) := by
  have hB := Below.refl w.heap.size w
  have H := Lib.hid h
  have HS := Lib.hid hs
  obtain ⟨ax, cx, rfl⟩ := h.form
  clear h hs
  go_enter Try.func40, Try.ntmps40
  go_wp2_with fail
  go_loopw [5] (fun i wr => ∃ k : Nat, i = .int .i64 k ∧ k ≤ l.length ∧ Hid ((l.take k).any badR = false) ∧ Below w.heap.size w wr) (fun i _ => l.length - (intOf i).toNat)
  case atStart => exact ⟨0, rfl, Nat.zero_le _, Lib.hid rfl, hB⟩
  case round =>
    clear hB
    obtain ⟨k, rfl, hk, HA, hB⟩ := hrel
    by_cases hkl : k < l.length
    · have hkI : (k : Int) < l.length := by omega
      obtain ⟨b, o, c, he, q0, q1, hin⟩ := H.out.at' hkl
      cases he
      have q0 := cb hB q0; have q1 := cb hB q1
      have hsz := HS.out _ (List.getElem_mem hkl)
      have HBAD := Lib.hid (show badR (l[k]'hkl) = true → ofR l = (1, []) from fun e => by
        unfold ofR
        have : l.any badR = true := List.any_eq_true.2 ⟨_, List.getElem_mem hkl, e⟩
        rw [this]; rfl)
      have HGOOD := Lib.hid (show badR (l[k]'hkl) = false → (l.take (k + 1)).any badR = false from fun e => by
        rw [List.take_succ_eq_append_getElem hkl, List.any_append, HA.out]; simp [e])
      obtain ⟨p, hp⟩ : ∃ p, l[k]'hkl = p := ⟨_, rfl⟩
      rw [hp] at q0 q1 hin hsz HBAD HGOOD
      clear hp hin
      by_cases hrt : rightB p.1 = true
      · by_cases hz : p.2 < 0
        · have HE := Lib.hid (HBAD.out (by unfold badR; rw [hrt]; simpa using hz))
          go_wp2_with (go_at_call 45; refine (rightR_calls _ _ (by omega)).mono ?_; rintro e w' ⟨rfl, hb⟩; rw [hrt]; have hB := bl_next hB hb; have q0 := cb hb q0; have q1 := cb hb q1; clear hb)
          go_ret2
          exact vecOut_nil HE.out hB
        · have hzI : 0 ≤ p.2 := by omega
          have HG := Lib.hid (HGOOD.out (by unfold badR; rw [hrt]; simpa using hzI))
          go_wp2_with (go_at_call 45; refine (rightR_calls _ _ (by omega)).mono ?_; rintro e w' ⟨rfl, hb⟩; rw [hrt]; have hB := bl_next hB hb; have q0 := cb hb q0; have q1 := cb hb q1; clear hb)
          go_roundw
          case rel => exact ⟨k + 1, by simp, by omega, HG, hB⟩
          case measure => simp [intOf]; omega
      · have hrf : rightB p.1 = false := by simpa using hrt
        have HE := Lib.hid (HBAD.out (by unfold badR; rw [hrf]; rfl))
        clear hrt
        go_wp2_with (go_at_call 45; refine (rightR_calls _ _ (by omega)).mono ?_; rintro e w' ⟨rfl, hb⟩; rw [hrf]; have hB := bl_next hB hb; have q0 := cb hb q0; have q1 := cb hb q1; clear hb)
        go_ret2
        exact vecOut_nil HE.out hB
    · obtain rfl : k = l.length := by omega
      have hA := HA.out
      rw [List.take_length] at hA
      have HA := Lib.hid hA
      clear hA
      by_cases h16 : 16 < l.length
      · have h16I : (16 : Int) < l.length := by omega
        have HE := Lib.hid (show ofR l = (3, []) by unfold ofR; rw [HA.out, if_neg (by simp), if_pos h16])
        go_wp2_with fail
        go_ret2
        exact vecOut_nil HE.out hB
      · have h16I : (l.length : Int) ≤ 16 := by omega
        have HE := Lib.hid (show ofR l = (0, foldQ l) by unfold ofR; rw [HA.out, if_neg (by simp), if_neg h16, foldQ_eq])
        have HG := Lib.hid (show ∀ k, (l.take k).any badR = false from fun k => by
          rw [List.any_eq_false]; intro q hq
          have := HA.out; rw [List.any_eq_false] at this
          exact this q (List.mem_of_mem_take hq))
        have HB0 := Lib.hid hB
        clear h16 hB hk hkl
        go_wp2_with fail
        go_loopw [4, 7] (fun v i wr => ∃ (k : Nat) (A : Option Addr) (cap : Nat), (i = .int .i64 k ∧ v = .slice A (foldQ (l.take k)).length cap) ∧ k ≤ l.length ∧ Hid (wr.ownsRow w.heap.size 64 3 (.slice A (foldQ (l.take k)).length cap) (foldQ (l.take k)).length (vecC (foldQ (l.take k)))) ∧ Hid (Below w.heap.size w wr)) (fun _ i _ => l.length - (intOf i).toNat)
        case atStart => exact ⟨0, none, 0, ⟨rfl, rfl⟩, Nat.zero_le _, Lib.hid (World.ownsRow_nil _ _ _ _), HB0⟩
        case round =>
          clear HB0
          obtain ⟨k, A, cap, ⟨rfl, rfl⟩, hk, R0, HB0⟩ := hrel
          by_cases hkl : k < l.length
          · have hkI : (k : Int) < l.length := by omega
            obtain ⟨b, o, c, he, q0, q1, hin⟩ := H.out.at' hkl
            cases he
            have q0 := cb HB0.out q0; have q1 := cb HB0.out q1
            have hsz := HS.out _ (List.getElem_mem hkl)
            have HSTEP := Lib.hid (foldQ_succ hkl)
            have hgr := good_res (HG.out k) H.out.2
            have hgp := good_res (HG.out (k + 1)) H.out.2 (l[k]'hkl) (by rw [List.take_succ_eq_append_getElem hkl]; exact List.mem_append_right _ (List.mem_singleton.2 rfl))
            have hml : (foldQ (l.take k)).length ≤ k := by have := foldQ_len (l.take k); rw [List.length_take] at this; omega
            have HBD := Lib.hid (foldQ_bound hgr (by rw [List.length_take]; omega))
            have HNM := Lib.hid (show ∀ q ∈ foldQ (l.take k), q.1.size ≤ 1000000 from fun q hq => by
              obtain ⟨r, hr, e⟩ := foldQ_names hq
              rw [e]; have := HS.out r (List.mem_of_mem_take hr); omega)
            have HWI := Lib.hid (show ∀ q ∈ foldQ (l.take k), wIn q.2 = true from fun q hq => by
              have e := getV_mem (foldQ_all (l.take k)).1 hq
              have := HBD.out q.1
              rw [e] at this
              exact wide_in this.1 (by omega))
            obtain ⟨M, hM⟩ : ∃ M, foldQ (l.take k) = M := ⟨_, rfl⟩
            rw [hM] at R0 HSTEP HBD HNM HWI hml ⊢
            obtain ⟨p, hp⟩ : ∃ p, l[k]'hkl = p := ⟨_, rfl⟩
            rw [hp] at q0 q1 hsz HSTEP hgp
            clear hp hM hgr hin
            obtain ⟨hg1, hg2⟩ := hgp
            have hbd := HBD.out p.1
            have HIN := Lib.hid (show wIn (getV M p.1 + p.2) = true from wide_in (by omega) (by omega))
            have HIN1 := Lib.hid (show wIn (getV M p.1) = true from wide_in (by omega) (by omega))
            have HIN2 := Lib.hid (show wIn p.2 = true from wide_in (by omega) (by omega))
            have HMV := Lib.hid (show VecS wr (.slice A M.length cap) M from ⟨sliS_of R0.out, HWI.out⟩)
            obtain ⟨U, rfl⟩ : ∃ U : World, U = wr := ⟨_, rfl⟩
            have hVw := HB0.out.size
            go_upto_region 13 with fail
            first | with_reducible refine name_wp ?_ | with_reducible refine name_calls ?_
            intro V hWeq
            have hw : Below U.heap.size U V := by rw [hWeq]; repeat (first | with_reducible exact Below.refl _ _ | with_reducible refine Below.drew ?_ | with_reducible refine bl_dN ?_ _ | with_reducible refine Below.alloc ?_ (by simp <;> omega) _)
            clear hWeq
            have hB : Below V.heap.size V V := Below.refl _ _
            have Hw := Lib.hid hw; clear hw
            have HBV := Lib.hid (HB0.out.trans (Hw.out.mono hVw))
            have HMV2 := Lib.hid (HMV.out.below Hw.out)
            have q0 := cb Hw.out q0; have q1 := cb Hw.out q1
            have hVw2 := HBV.out.size
            go_cut [8, 9] from 41 to 57 (fun s8 s9 wc => ∃ b : Nat, s8 = .pointer (some ⟨b, 0, none⟩) ∧ s9 = .bool true ∧ wc.heap[b]? = some (.cells #[.int .i64 (whi (getV M p.1 + p.2)), .int .u64 (wlo (getV M p.1 + p.2))] 40) ∧ V.heap.size ≤ b ∧ Below V.heap.size V wc)
            case first =>
              have hB := hB.drew
              refine region_plan (fun w' => Below V.heap.size V w') (.take 0 (.take 1 (.take 2 (.take 3 (.take 4 (.take 5 (.take 7 (.take 8 (.take 9 (.take 10 (.take 11 (.both 6 17 (.both 12 17 (.both 13 17 (.take 14 (.take 15 (.take 16 (.only 17 (.only 18 (.take 19 .done)))))) (.only 13 (.take 14 (.take 15 (.take 16 (.only 18 (.take 19 .done))))))) (.only 12 (.only 13 (.take 14 (.take 15 (.take 16 (.only 18 (.take 19 .done)))))))) (.only 6 (.only 12 (.only 13 (.take 14 (.take 15 (.take 16 (.only 18 (.take 19 .done)))))))))))))))))))) (by kernel_rfl) (by kernel_rfl) (fun _ _ _ _ h => h) hB ?_
              try generalize World.drew _ = wS at hB ⊢
              refine plan_take (v := ?_) (a' := ?_) (some 42) rfl rfl (by rfl) ?_ ?_ ?_
              rotate_left; rotate_left
              · intro w' hS; go_simp; with_reducible rfl
              · simp only [Act.put, List.setIfInBounds_toArray, List.set_cons_zero, List.set_cons_succ]; rfl
              refine plan_take (v := ?_) (a' := ?_) (some 43) rfl rfl (by rfl) ?_ ?_ ?_
              rotate_left; rotate_left
              · intro w' hS; go_simp; with_reducible rfl
              · simp only [Act.put, List.setIfInBounds_toArray, List.set_cons_zero, List.set_cons_succ]; rfl
              refine plan_take (v := ?_) (a' := ?_) (some 44) rfl rfl (by rfl) ?_ ?_ ?_
              rotate_left; rotate_left
              · intro w' hS; go_simp; with_reducible rfl
              · simp only [Act.put, List.setIfInBounds_toArray, List.set_cons_zero, List.set_cons_succ]; rfl
              refine plan_take (v := ?_) (a' := ?_) (some 45) rfl rfl (by rfl) ?_ ?_ ?_
              rotate_left; rotate_left
              · intro w' hS; go_simp; with_reducible rfl
              · simp only [Act.put, List.setIfInBounds_toArray, List.set_cons_zero, List.set_cons_succ]; rfl
              refine plan_take (v := ?_) (a' := ?_) (some 46) rfl rfl (by rfl) ?_ ?_ ?_
              rotate_left; rotate_left
              · intro w' hS; go_simp; with_reducible rfl
              · simp only [Act.put, List.setIfInBounds_toArray, List.set_cons_zero, List.set_cons_succ]; rfl
              refine plan_take (v := ?_) (a' := ?_) (some 47) rfl rfl (by rfl) ?_ ?_ ?_
              rotate_left; rotate_left
              · intro w' hS; have s8 := cb hS q0; have s9 := cb hS q1; go_simp; with_reducible rfl
              · simp only [Act.put, List.setIfInBounds_toArray, List.set_cons_zero, List.set_cons_succ]; rfl
              refine plan_take (v := ?_) (a' := ?_) (some 49) rfl rfl (by rfl) ?_ ?_ ?_
              rotate_left; rotate_left
              · intro w' hS; go_simp; with_reducible rfl
              · simp only [Act.put, List.setIfInBounds_toArray, List.set_cons_zero, List.set_cons_succ]; rfl
              refine plan_take (v := ?_) (a' := ?_) (some 50) rfl rfl (by rfl) ?_ ?_ ?_
              rotate_left; rotate_left
              · intro w' hS; go_simp; with_reducible rfl
              · simp only [Act.put, List.setIfInBounds_toArray, List.set_cons_zero, List.set_cons_succ]; rfl
              refine plan_take (v := ?_) (a' := ?_) (some 51) rfl rfl (by rfl) ?_ ?_ ?_
              rotate_left; rotate_left
              · intro w' hS; go_simp; with_reducible rfl
              · simp only [Act.put, List.setIfInBounds_toArray, List.set_cons_zero, List.set_cons_succ]; rfl
              refine plan_take (v := ?_) (a' := ?_) (some 52) rfl rfl (by rfl) ?_ ?_ ?_
              rotate_left; rotate_left
              · intro w' hS; go_simp; with_reducible rfl
              · simp only [Act.put, List.setIfInBounds_toArray, List.set_cons_zero, List.set_cons_succ]; rfl
              refine plan_take (v := ?_) (a' := ?_) (some 53) rfl rfl (by rfl) ?_ ?_ ?_
              rotate_left; rotate_left
              · intro w' hS; have s8 := cb hS q0; have s9 := cb hS q1; go_simp; with_reducible rfl
              · simp only [Act.put, List.setIfInBounds_toArray, List.set_cons_zero, List.set_cons_succ]; rfl
              refine plan_both ?_ ?_
              · refine plan_call (args := ?_) Try.func65 (by kernel_rfl) rfl (some 48) rfl rfl (by rfl) rfl ?_ ?_
                rotate_left
                · simp only [List.map_toArray, List.map_cons, List.map_nil]; go_simp; rfl
                with_reducible refine (rvget_calls _ (HMV2.out.below hB) p.1 (by omega)).mono ?_
                rintro e w' ⟨rfl, hb⟩
                unfold wideV
                refine ⟨_, rfl, bl_next hB hb, ?_⟩
                have hB := bl_next hB hb; clear hb
                simp only [Act.put, List.setIfInBounds_toArray, List.set_cons_zero, List.set_cons_succ]
                refine plan_both ?_ ?_
                · refine plan_call (args := ?_) Try.func20 (by kernel_rfl) rfl (some 54) rfl rfl (by rfl) rfl ?_ ?_
                  rotate_left
                  · simp only [List.map_toArray, List.map_cons, List.map_nil]; go_simp; rfl
                  with_reducible refine (rof_calls _ _ (by omega) (by omega)).mono ?_
                  rintro e w' ⟨rfl, hb⟩
                  unfold wideV
                  refine ⟨_, rfl, bl_next hB hb, ?_⟩
                  have hB := bl_next hB hb; clear hb
                  simp only [Act.put, List.setIfInBounds_toArray, List.set_cons_zero, List.set_cons_succ]
                  refine plan_both ?_ ?_
                  · refine plan_call (args := ?_) Try.func21 (by kernel_rfl) rfl (some 55) rfl rfl (by rfl) rfl ?_ ?_
                    rotate_left
                    · simp only [List.map_toArray, List.map_cons, List.map_nil]; go_simp; rfl
                    with_reducible refine (radd_calls _ _ _ _ _ (WOk.of_in HIN1.out) (WOk.of_in HIN2.out)).mono ?_
                    rintro e w' ⟨rfl, hb⟩
                    rw [wval_of, wval_of, wres_in HIN.out]
                    refine ⟨_, rfl, bl_next hB hb, ?_⟩
                    have hB := bl_next hB hb; clear hb
                    simp only [Act.put, List.setIfInBounds_toArray, List.set_cons_zero, List.set_cons_succ]
                    refine plan_take (v := ?_) (a' := ?_) (some 41) rfl rfl (by rfl) ?_ ?_ ?_
                    rotate_left; rotate_left
                    · intro w' hS; go_simp; with_reducible rfl
                    · simp only [Act.put, List.setIfInBounds_toArray, List.set_cons_zero, List.set_cons_succ]; rfl
                    refine plan_take (v := ?_) (a' := ?_) (some 56) rfl rfl (by rfl) ?_ ?_ ?_
                    rotate_left; rotate_left
                    · intro w' hS; go_simp; with_reducible rfl
                    · simp only [Act.put, List.setIfInBounds_toArray, List.set_cons_zero, List.set_cons_succ]; rfl
                    refine plan_take (v := ?_) (a' := ?_) (some 57) rfl rfl (by rfl) ?_ ?_ ?_
                    rotate_left; rotate_left
                    · intro w' hS; go_simp; with_reducible rfl
                    · simp only [Act.put, List.setIfInBounds_toArray, List.set_cons_zero, List.set_cons_succ]; rfl
                    refine plan_op (some 8) rfl rfl (by rfl) ?_
                    apply Exists.intro; apply Exists.intro; apply And.intro
                    · go_simp; first | exact ⟨rfl, rfl⟩ | rfl
                    apply Exists.intro; apply And.intro
                    · simp only [Act.put, List.setIfInBounds_toArray, List.set_cons_zero, List.set_cons_succ]; rfl
                    apply And.intro
                    · exact Below.alloc hB hB.size _
                    have hbV := hB.size
                    refine plan_named ?_; intro wA gA hbA; have hB := bl_next hB hbA; clear hbA
                    have hlA := blk_lt gA
                    have cA0 : _ = some _ := blk_cell gA 0
                    have fA0 := blk_free gA 0
                    have cA1 : _ = some _ := blk_cell gA 1
                    have fA1 := blk_free gA 1
                    refine plan_store none rfl rfl (by rfl) ?_
                    apply Exists.intro; apply And.intro
                    · go_simp; first | exact ⟨rfl, rfl⟩ | rfl
                    apply Exists.intro; apply And.intro
                    · simp only [Act.put, List.setIfInBounds_toArray, List.set_cons_zero, List.set_cons_succ]; rfl
                    apply And.intro
                    · exact Below.setCell (Below.setCell hB hbV _) hbV _
                    clear cA0 fA0 cA1 fA1
                    refine plan_set2 gA hB hbV ?_; clear gA hB hlA; intro wB gA hB
                    refine plan_take (v := ?_) (a' := ?_) (some 9) rfl rfl (by rfl) ?_ ?_ ?_
                    rotate_left; rotate_left
                    · intro w' hS; go_simp; with_reducible rfl
                    · simp only [Act.put, List.setIfInBounds_toArray, List.set_cons_zero, List.set_cons_succ]; rfl
                    refine plan_done ?_
                    go_wp2_with fail
                    go_meet
                    exact ⟨_, rfl, rfl, gA, hbV, hB⟩
                  · refine plan_op (some 8) rfl rfl (by rfl) ?_
                    apply Exists.intro; apply Exists.intro; apply And.intro
                    · go_simp; first | exact ⟨rfl, rfl⟩ | rfl
                    apply Exists.intro; apply And.intro
                    · simp only [Act.put, List.setIfInBounds_toArray, List.set_cons_zero, List.set_cons_succ]; rfl
                    apply And.intro
                    · exact Below.alloc hB hB.size _
                    have hbV := hB.size
                    refine plan_named ?_; intro wA gA hbA; have hB := bl_next hB hbA; clear hbA
                    refine plan_call (args := ?_) Try.func21 (by kernel_rfl) rfl (some 55) rfl rfl (by rfl) rfl ?_ ?_
                    rotate_left
                    · simp only [List.map_toArray, List.map_cons, List.map_nil]; go_simp; rfl
                    with_reducible refine (radd_calls _ _ _ _ _ (WOk.of_in HIN1.out) (WOk.of_in HIN2.out)).mono ?_
                    rintro e w' ⟨rfl, hb⟩
                    rw [wval_of, wval_of, wres_in HIN.out]
                    refine ⟨_, rfl, bl_next hB hb, ?_⟩
                    have gA := blk_below gA hb
                    have hB := bl_next hB hb; clear hb
                    simp only [Act.put, List.setIfInBounds_toArray, List.set_cons_zero, List.set_cons_succ]
                    refine plan_take (v := ?_) (a' := ?_) (some 41) rfl rfl (by rfl) ?_ ?_ ?_
                    rotate_left; rotate_left
                    · intro w' hS; go_simp; with_reducible rfl
                    · simp only [Act.put, List.setIfInBounds_toArray, List.set_cons_zero, List.set_cons_succ]; rfl
                    refine plan_take (v := ?_) (a' := ?_) (some 56) rfl rfl (by rfl) ?_ ?_ ?_
                    rotate_left; rotate_left
                    · intro w' hS; go_simp; with_reducible rfl
                    · simp only [Act.put, List.setIfInBounds_toArray, List.set_cons_zero, List.set_cons_succ]; rfl
                    refine plan_take (v := ?_) (a' := ?_) (some 57) rfl rfl (by rfl) ?_ ?_ ?_
                    rotate_left; rotate_left
                    · intro w' hS; go_simp; with_reducible rfl
                    · simp only [Act.put, List.setIfInBounds_toArray, List.set_cons_zero, List.set_cons_succ]; rfl
                    have hlA := blk_lt gA
                    have cA0 : _ = some _ := blk_cell gA 0
                    have fA0 := blk_free gA 0
                    have cA1 : _ = some _ := blk_cell gA 1
                    have fA1 := blk_free gA 1
                    refine plan_store none rfl rfl (by rfl) ?_
                    apply Exists.intro; apply And.intro
                    · go_simp; first | exact ⟨rfl, rfl⟩ | rfl
                    apply Exists.intro; apply And.intro
                    · simp only [Act.put, List.setIfInBounds_toArray, List.set_cons_zero, List.set_cons_succ]; rfl
                    apply And.intro
                    · exact Below.setCell (Below.setCell hB hbV _) hbV _
                    clear cA0 fA0 cA1 fA1
                    refine plan_set2 gA hB hbV ?_; clear gA hB hlA; intro wB gA hB
                    refine plan_take (v := ?_) (a' := ?_) (some 9) rfl rfl (by rfl) ?_ ?_ ?_
                    rotate_left; rotate_left
                    · intro w' hS; go_simp; with_reducible rfl
                    · simp only [Act.put, List.setIfInBounds_toArray, List.set_cons_zero, List.set_cons_succ]; rfl
                    refine plan_done ?_
                    go_wp2_with fail
                    go_meet
                    exact ⟨_, rfl, rfl, gA, hbV, hB⟩
                · refine plan_op (some 8) rfl rfl (by rfl) ?_
                  apply Exists.intro; apply Exists.intro; apply And.intro
                  · go_simp; first | exact ⟨rfl, rfl⟩ | rfl
                  apply Exists.intro; apply And.intro
                  · simp only [Act.put, List.setIfInBounds_toArray, List.set_cons_zero, List.set_cons_succ]; rfl
                  apply And.intro
                  · exact Below.alloc hB hB.size _
                  have hbV := hB.size
                  refine plan_named ?_; intro wA gA hbA; have hB := bl_next hB hbA; clear hbA
                  refine plan_call (args := ?_) Try.func20 (by kernel_rfl) rfl (some 54) rfl rfl (by rfl) rfl ?_ ?_
                  rotate_left
                  · simp only [List.map_toArray, List.map_cons, List.map_nil]; go_simp; rfl
                  with_reducible refine (rof_calls _ _ (by omega) (by omega)).mono ?_
                  rintro e w' ⟨rfl, hb⟩
                  unfold wideV
                  refine ⟨_, rfl, bl_next hB hb, ?_⟩
                  have gA := blk_below gA hb
                  have hB := bl_next hB hb; clear hb
                  simp only [Act.put, List.setIfInBounds_toArray, List.set_cons_zero, List.set_cons_succ]
                  refine plan_call (args := ?_) Try.func21 (by kernel_rfl) rfl (some 55) rfl rfl (by rfl) rfl ?_ ?_
                  rotate_left
                  · simp only [List.map_toArray, List.map_cons, List.map_nil]; go_simp; rfl
                  with_reducible refine (radd_calls _ _ _ _ _ (WOk.of_in HIN1.out) (WOk.of_in HIN2.out)).mono ?_
                  rintro e w' ⟨rfl, hb⟩
                  rw [wval_of, wval_of, wres_in HIN.out]
                  refine ⟨_, rfl, bl_next hB hb, ?_⟩
                  have gA := blk_below gA hb
                  have hB := bl_next hB hb; clear hb
                  simp only [Act.put, List.setIfInBounds_toArray, List.set_cons_zero, List.set_cons_succ]
                  refine plan_take (v := ?_) (a' := ?_) (some 41) rfl rfl (by rfl) ?_ ?_ ?_
                  rotate_left; rotate_left
                  · intro w' hS; go_simp; with_reducible rfl
                  · simp only [Act.put, List.setIfInBounds_toArray, List.set_cons_zero, List.set_cons_succ]; rfl
                  refine plan_take (v := ?_) (a' := ?_) (some 56) rfl rfl (by rfl) ?_ ?_ ?_
                  rotate_left; rotate_left
                  · intro w' hS; go_simp; with_reducible rfl
                  · simp only [Act.put, List.setIfInBounds_toArray, List.set_cons_zero, List.set_cons_succ]; rfl
                  refine plan_take (v := ?_) (a' := ?_) (some 57) rfl rfl (by rfl) ?_ ?_ ?_
                  rotate_left; rotate_left
                  · intro w' hS; go_simp; with_reducible rfl
                  · simp only [Act.put, List.setIfInBounds_toArray, List.set_cons_zero, List.set_cons_succ]; rfl
                  have hlA := blk_lt gA
                  have cA0 : _ = some _ := blk_cell gA 0
                  have fA0 := blk_free gA 0
                  have cA1 : _ = some _ := blk_cell gA 1
                  have fA1 := blk_free gA 1
                  refine plan_store none rfl rfl (by rfl) ?_
                  apply Exists.intro; apply And.intro
                  · go_simp; first | exact ⟨rfl, rfl⟩ | rfl
                  apply Exists.intro; apply And.intro
                  · simp only [Act.put, List.setIfInBounds_toArray, List.set_cons_zero, List.set_cons_succ]; rfl
                  apply And.intro
                  · exact Below.setCell (Below.setCell hB hbV _) hbV _
                  clear cA0 fA0 cA1 fA1
                  refine plan_set2 gA hB hbV ?_; clear gA hB hlA; intro wB gA hB
                  refine plan_take (v := ?_) (a' := ?_) (some 9) rfl rfl (by rfl) ?_ ?_ ?_
                  rotate_left; rotate_left
                  · intro w' hS; go_simp; with_reducible rfl
                  · simp only [Act.put, List.setIfInBounds_toArray, List.set_cons_zero, List.set_cons_succ]; rfl
                  refine plan_done ?_
                  go_wp2_with fail
                  go_meet
                  exact ⟨_, rfl, rfl, gA, hbV, hB⟩
              · refine plan_op (some 8) rfl rfl (by rfl) ?_
                apply Exists.intro; apply Exists.intro; apply And.intro
                · go_simp; first | exact ⟨rfl, rfl⟩ | rfl
                apply Exists.intro; apply And.intro
                · simp only [Act.put, List.setIfInBounds_toArray, List.set_cons_zero, List.set_cons_succ]; rfl
                apply And.intro
                · exact Below.alloc hB hB.size _
                have hbV := hB.size
                refine plan_named ?_; intro wA gA hbA; have hB := bl_next hB hbA; clear hbA
                refine plan_call (args := ?_) Try.func65 (by kernel_rfl) rfl (some 48) rfl rfl (by rfl) rfl ?_ ?_
                rotate_left
                · simp only [List.map_toArray, List.map_cons, List.map_nil]; go_simp; rfl
                with_reducible refine (rvget_calls _ (HMV2.out.below hB) p.1 (by omega)).mono ?_
                rintro e w' ⟨rfl, hb⟩
                unfold wideV
                refine ⟨_, rfl, bl_next hB hb, ?_⟩
                have gA := blk_below gA hb
                have hB := bl_next hB hb; clear hb
                simp only [Act.put, List.setIfInBounds_toArray, List.set_cons_zero, List.set_cons_succ]
                refine plan_call (args := ?_) Try.func20 (by kernel_rfl) rfl (some 54) rfl rfl (by rfl) rfl ?_ ?_
                rotate_left
                · simp only [List.map_toArray, List.map_cons, List.map_nil]; go_simp; rfl
                with_reducible refine (rof_calls _ _ (by omega) (by omega)).mono ?_
                rintro e w' ⟨rfl, hb⟩
                unfold wideV
                refine ⟨_, rfl, bl_next hB hb, ?_⟩
                have gA := blk_below gA hb
                have hB := bl_next hB hb; clear hb
                simp only [Act.put, List.setIfInBounds_toArray, List.set_cons_zero, List.set_cons_succ]
                refine plan_call (args := ?_) Try.func21 (by kernel_rfl) rfl (some 55) rfl rfl (by rfl) rfl ?_ ?_
                rotate_left
                · simp only [List.map_toArray, List.map_cons, List.map_nil]; go_simp; rfl
                with_reducible refine (radd_calls _ _ _ _ _ (WOk.of_in HIN1.out) (WOk.of_in HIN2.out)).mono ?_
                rintro e w' ⟨rfl, hb⟩
                rw [wval_of, wval_of, wres_in HIN.out]
                refine ⟨_, rfl, bl_next hB hb, ?_⟩
                have gA := blk_below gA hb
                have hB := bl_next hB hb; clear hb
                simp only [Act.put, List.setIfInBounds_toArray, List.set_cons_zero, List.set_cons_succ]
                refine plan_take (v := ?_) (a' := ?_) (some 41) rfl rfl (by rfl) ?_ ?_ ?_
                rotate_left; rotate_left
                · intro w' hS; go_simp; with_reducible rfl
                · simp only [Act.put, List.setIfInBounds_toArray, List.set_cons_zero, List.set_cons_succ]; rfl
                refine plan_take (v := ?_) (a' := ?_) (some 56) rfl rfl (by rfl) ?_ ?_ ?_
                rotate_left; rotate_left
                · intro w' hS; go_simp; with_reducible rfl
                · simp only [Act.put, List.setIfInBounds_toArray, List.set_cons_zero, List.set_cons_succ]; rfl
                refine plan_take (v := ?_) (a' := ?_) (some 57) rfl rfl (by rfl) ?_ ?_ ?_
                rotate_left; rotate_left
                · intro w' hS; go_simp; with_reducible rfl
                · simp only [Act.put, List.setIfInBounds_toArray, List.set_cons_zero, List.set_cons_succ]; rfl
                have hlA := blk_lt gA
                have cA0 : _ = some _ := blk_cell gA 0
                have fA0 := blk_free gA 0
                have cA1 : _ = some _ := blk_cell gA 1
                have fA1 := blk_free gA 1
                refine plan_store none rfl rfl (by rfl) ?_
                apply Exists.intro; apply And.intro
                · go_simp; first | exact ⟨rfl, rfl⟩ | rfl
                apply Exists.intro; apply And.intro
                · simp only [Act.put, List.setIfInBounds_toArray, List.set_cons_zero, List.set_cons_succ]; rfl
                apply And.intro
                · exact Below.setCell (Below.setCell hB hbV _) hbV _
                clear cA0 fA0 cA1 fA1
                refine plan_set2 gA hB hbV ?_; clear gA hB hlA; intro wB gA hB
                refine plan_take (v := ?_) (a' := ?_) (some 9) rfl rfl (by rfl) ?_ ?_ ?_
                rotate_left; rotate_left
                · intro w' hS; go_simp; with_reducible rfl
                · simp only [Act.put, List.setIfInBounds_toArray, List.set_cons_zero, List.set_cons_succ]; rfl
                refine plan_done ?_
                go_wp2_with fail
                go_meet
                exact ⟨_, rfl, rfl, gA, hbV, hB⟩
            case rest =>
              obtain ⟨b0, rfl, rfl, gK, hbK, hcB⟩ := hcut
              obtain ⟨V1, rfl⟩ : ∃ V1 : World, V1 = wc := ⟨_, rfl⟩
              have c0_0 : V1.cell? ⟨b0, 0, none⟩ = some (.int .i64 (whi (getV M p.1 + p.2))) := blk_cell gK 0
              have c0_1 : V1.cell? ⟨b0, 1, none⟩ = some (.int .u64 (wlo (getV M p.1 + p.2))) := blk_cell gK 1
              have F0 := Lib.hid (fun j => blk_free gK j)
              have HB_V1 := Lib.hid hcB
              have Hw := Lib.hid (bl_from Hw.out hcB)
              clear hcB hbK gK
              try clear hB
              have hB : Below V1.heap.size V1 V1 := Below.refl _ _
              have kz0 : b0 < V1.heap.size := lt_of_cell c0_0
              have q0 := cb HB_V1.out q0; have q1 := cb HB_V1.out q1
              have HM1 := Lib.hid (HMV2.out.below HB_V1.out)
              have HBV1 := Lib.hid (HBV.out.trans (HB_V1.out.mono hVw2))
              have hVw3 := HBV1.out.size
              go_upto_region 14 with fail
              have hB := hB.drew
              refine region_seq (fun w' => Below V1.heap.size V1 w') [(0, true), (1, true), (2, true), (3, true), (4, true), (5, true), (6, true), (7, false), (8, true)] (by kernel_rfl) (by kernel_rfl) (fun _ _ _ _ h => h) hB ?_
              try generalize World.drew _ = wS at hB ⊢
              refine seq_take (v := ?_) (a' := ?_) (some 58) rfl rfl (by rfl) ?_ ?_ ?_
              rotate_left; rotate_left
              · intro w' hS; go_simp; with_reducible rfl
              · simp only [Act.put, List.setIfInBounds_toArray, List.set_cons_zero, List.set_cons_succ]; rfl
              refine seq_take (v := ?_) (a' := ?_) (some 59) rfl rfl (by rfl) ?_ ?_ ?_
              rotate_left; rotate_left
              · intro w' hS; go_simp; with_reducible rfl
              · simp only [Act.put, List.setIfInBounds_toArray, List.set_cons_zero, List.set_cons_succ]; rfl
              refine seq_take (v := ?_) (a' := ?_) (some 60) rfl rfl (by rfl) ?_ ?_ ?_
              rotate_left; rotate_left
              · intro w' hS; go_simp; with_reducible rfl
              · simp only [Act.put, List.setIfInBounds_toArray, List.set_cons_zero, List.set_cons_succ]; rfl
              refine seq_take (v := ?_) (a' := ?_) (some 61) rfl rfl (by rfl) ?_ ?_ ?_
              rotate_left; rotate_left
              · intro w' hS; go_simp; with_reducible rfl
              · simp only [Act.put, List.setIfInBounds_toArray, List.set_cons_zero, List.set_cons_succ]; rfl
              refine seq_take (v := ?_) (a' := ?_) (some 62) rfl rfl (by rfl) ?_ ?_ ?_
              rotate_left; rotate_left
              · intro w' hS; go_simp; with_reducible rfl
              · simp only [Act.put, List.setIfInBounds_toArray, List.set_cons_zero, List.set_cons_succ]; rfl
              refine seq_take (v := ?_) (a' := ?_) (some 63) rfl rfl (by rfl) ?_ ?_ ?_
              rotate_left; rotate_left
              · intro w' hS; have p0 := cb hS q0; have p1 := cb hS c0_0; have p2 := cb hS c0_1; go_simp; with_reducible rfl
              · simp only [Act.put, List.setIfInBounds_toArray, List.set_cons_zero, List.set_cons_succ]; rfl
              refine seq_take (v := ?_) (a' := ?_) (some 64) rfl rfl (by rfl) ?_ ?_ ?_
              rotate_left; rotate_left
              · intro w' hS; have p0 := cb hS q0; have p1 := cb hS c0_0; have p2 := cb hS c0_1; go_simp; with_reducible rfl
              · simp only [Act.put, List.setIfInBounds_toArray, List.set_cons_zero, List.set_cons_succ]; rfl
              refine seq_call (args := ?_) Try.func66 (by kernel_rfl) rfl (some 65) rfl rfl (by rfl) rfl ?_ ?_
              rotate_left
              · simp only [List.map_toArray, List.map_cons, List.map_nil]; go_simp; rfl
              with_reducible refine (rput_calls _ (HM1.out.below hB) p.1 (getV M p.1 + p.2) (by omega) (by omega) HNM.out).mono ?_
              rintro e w' ⟨y, rfl, hrow, hb⟩
              obtain ⟨ay, cy, rfl⟩ := rw_form hrow; have HRN := Lib.hid (rw_mono hrow (Nat.le_trans hVw3 hB.size)); clear hrow
              refine ⟨_, rfl, bl_next (by repeat (first | with_reducible exact hB | refine Below.alloc ?_ (by have := hB.size; simp; omega) _ | refine bl_dN ?_ _ | refine Below.drew ?_ | refine Below.setCell ?_ (by have := hB.size; simp; omega) _)) hb, ?_⟩
              have hB := bl_next (by repeat (first | with_reducible exact hB | refine Below.alloc ?_ (by have := hB.size; simp; omega) _ | refine bl_dN ?_ _ | refine Below.drew ?_ | refine Below.setCell ?_ (by have := hB.size; simp; omega) _)) hb; clear hb
              simp only [Act.put, List.setIfInBounds_toArray, List.set_cons_zero, List.set_cons_succ]
              refine seq_take (v := ?_) (a' := ?_) (some 4) rfl rfl (by rfl) ?_ ?_ ?_
              rotate_left; rotate_left
              · intro w' hS; go_simp; with_reducible rfl
              · simp only [Act.put, List.setIfInBounds_toArray, List.set_cons_zero, List.set_cons_succ]; rfl
              refine seq_done ?_
              have HB2 := Lib.hid (HBV1.out.trans (hB.mono hVw3))
              clear hB
              go_wp2_with fail
              go_roundw
              case rel => exact ⟨k + 1, ay, cy, ⟨by simp, by rw [HSTEP.out]; rfl⟩, by omega, by rw [HSTEP.out]; exact HRN, HB2⟩
              case measure => simp [intOf]; omega
          · obtain rfl : k = l.length := by omega
            have hR := R0.out
            rw [List.take_length] at hR
            have HR := Lib.hid hR
            clear hR
            rw [List.take_length]
            go_wp2_with fail
            go_ret2
            rw [HE.out]
            exact ⟨_, rfl, HR.out, HB0.out⟩
end Go.Proofs.Yteomicjjaajblaa

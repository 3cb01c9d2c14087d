import Derived.Test.YtdcceaafiammfaaFdo
namespace Go.Proofs.Ytdcceaafiammfaa
open Go.RowKit
set_option linter.unusedVariables false
set_option linter.unusedSimpArgs false
theorem openM_spec' {l : List Item} {cov m : Nat} (h : m ∈ openM l cov) : m < l.length ∧ (itemAt l m).st = 0 ∧ stB l cov m = false := openM_spec h
theorem openM_length (l : List Item) (cov : Nat) : (openM l cov).length ≤ l.length := by
  unfold openM
  exact Nat.le_trans (List.length_filter_le _ _) (openTo_length l cov _)
set_option maxRecDepth 100000 in
set_option maxHeartbeats 40000000 in
theorem feedTurn_law (w : World) (A : Option Addr) (cap : Nat) (xs : List ActX) (h : Acts w A xs) :
    Calls Try.prog 5 #[.slice A xs.length cap] w fun e w' => e = .returned (.bool true) ∧ Below w.heap.size w w' := by
  have hB := Below.refl w.heap.size w
  have H := Lib.hid h
  clear h
  cases hf : fitsB xs with
  | false =>
    have HF := Lib.hid hf
    clear hf
    go_enter Try.func5, Try.ntmps5
    go_wp2_with (first | (go_at_call 12; refine (fits10_calls _ _ _ _ H.out).mono ?_; rintro e w' ⟨rfl, hb⟩; rw [HF.out]; have hB := bl_next hB hb; clear hb) | (go_at_call 13; refine (alive10_calls _).mono ?_; rintro e w' ⟨rfl, hb⟩; have hB := bl_next hB hb; clear hb))
    go_ret
    exact ⟨rfl, hB⟩
  | true =>
    obtain ⟨hl, hfit⟩ := fitsB_spec hf
    have HF := Lib.hid hf
    have HFIT := Lib.hid hfit
    clear hf hfit
    go_enter Try.func5, Try.ntmps5
    go_wp2_with (first | (go_at_call 12; refine (fits10_calls _ _ _ _ H.out).mono ?_; rintro e w' ⟨rfl, hb⟩; rw [HF.out]; have hB := bl_next hB hb; clear hb) | (go_at_call 14; refine (new_fs w _ hB).mono ?_; rintro e w1 ⟨rfl, S, hb⟩; have S0 := Lib.hid S; clear S hb))
    obtain ⟨fp, hfp⟩ : ∃ fp, fp = w'.heap.size := ⟨_, rfl⟩
    rw [← hfp] at S0 ⊢
    clear hB hfp
    go_loopw [5, 6, 7] (fun s5 s6 i wr => ∃ (k cov : Nat) (v kv iv : Value) (l : List Item), (i = .int .i64 k ∧ s5 = kv ∧ s6 = iv) ∧ k ≤ xs.length ∧ l.length ≤ k ∧ Good l cov ∧ FS w wr fp v l cov ∧ wr.ownsRow w.heap.size 35 3 kv l.length (keysC l) ∧ wr.ownsRow w.heap.size 3 1 iv l.length (stC l)) (fun _ _ i _ => xs.length - (intOf i).toNat)
    case atStart => exact ⟨0, 0, _, _, _, [], ⟨rfl, rfl, rfl⟩, Nat.zero_le _, Nat.le_refl _, ⟨Nat.zero_le _, fun x hx => by cases hx⟩, S0.out, World.ownsRow_nil _ _ _ _, World.ownsRow_nil _ _ _ _⟩
    case round =>
      obtain ⟨k, cov, v, kv, iv, l, ⟨rfl, rfl, rfl⟩, hk, hlk, hg, S, hK, hI⟩ := hrel
      have SS := Lib.hid S
      have HG := Lib.hid hg
      have KK := Lib.hid hK
      have II := Lib.hid hI
      clear S hg hK hI
      by_cases hkl : k < xs.length
      · have hkI : (k : Int) < xs.length := by omega
        obtain ⟨b, off, rfl, hbA, c0, c1, c2', c3, c4, q⟩ := H.out.at' k hkl
        have c0 := cb SS.out.below c0; have c1 := cb SS.out.below c1; have c2' := cb SS.out.below c2'; have c3 := cb SS.out.below c3; have c4 := cb SS.out.below c4
        have hgd := good_do HG.out (xs[k]'hkl) (HFIT.out k hkl)
        have hdl := do_length l cov (xs[k]'hkl)
        obtain ⟨r, hr⟩ : ∃ r, doR l cov (xs[k]'hkl) = r := ⟨_, rfl⟩
        have hw := way l cov (xs[k]'hkl)
        obtain ⟨a, ha⟩ : ∃ a, xs[k]'hkl = a := ⟨_, rfl⟩
        rw [ha] at c0 c1 c2' c3 c4 q hr hw hgd hdl
        rw [hr] at hw hgd hdl
        obtain ⟨q0, q1, q2, q3⟩ := q
        have hT : a.kind.tmod 7 = a.kind % 7 := Int.tmod_eq_emod_of_nonneg q0
        have hm7 : 0 ≤ a.kind % 7 ∧ a.kind % 7 < 7 := by omega
        have HR := Lib.hid hr
        clear hr ha
        cases hw with
        | grow hi =>
          have t2 : a.kind % 7 < 2 := by unfold isGrow at hi; rw [hT] at hi; simp at hi; omega
          have hl2 : (l ++ [⟨a.k, a.s, a.n, 0⟩] : List Item).length ≤ k + 1 := by simp; omega
          clear hi hT hdl
          go_wp2_with fail
          refine (do_fs SS.out (by omega) a q0 q1 (0) (l ++ [⟨a.k, a.s, a.n, 0⟩]) (cov) HR.out).mono ?_
          rintro e w3 ⟨rfl, v2, S, hk3⟩
          have KQ := Lib.hid (rw_kept KK.out hk3 (SS.out.apart KK.out (by decide) (by decide)))
          have IQ := Lib.hid (rw_kept II.out hk3 (SS.out.apart II.out (by decide) (by decide)))
          have c1 := hk3.cell c1 (fun hx => by have := SS.out.base _ hx; simp at this; omega); have c2' := hk3.cell c2' (fun hx => by have := SS.out.base _ hx; simp at this; omega); have c3 := hk3.cell c3 (fun hx => by have := SS.out.base _ hx; simp at this; omega)
          have SQ := Lib.hid S
          clear S hk3 c0 c4
          have HGD := Lib.hid hgd; clear hgd
          have hwz : w.heap.size ≤ w3.heap.size := SQ.out.below.size
          obtain ⟨l2, hl2e⟩ : ∃ l2, l2 = (l ++ [⟨a.k, a.s, a.n, 0⟩] : List Item) := ⟨_, rfl⟩
          obtain ⟨c2, hc2e⟩ : ∃ c2, c2 = cov := ⟨_, rfl⟩
          have EL := Lib.hid (show l.length + 1 = l2.length by rw [hl2e]; simp)
          have EK := Lib.hid (show keysC l ++ [.string a.k, .string a.s, .string a.n] = keysC l2 by rw [hl2e, ← keysC_app])
          have EI := Lib.hid (show stC l ++ [.int .i64 0] = stC l2 by rw [hl2e, ← stC_app]; rfl)
          rw [← hl2e, ← hc2e] at SQ HGD
          rw [← hl2e] at hl2
          clear hl2e hc2e
          have HLEN := Lib.hid (show ∀ ol, openM l2 c2 = ol → ol.length ≤ 1000000 from fun ol h => by have := openM_length l2 c2; rw [h] at this; omega)
          go_wp2_with (first | (at_builtin; refine app_key rfl (.tmp 45) (.tmp 51) rfl w.heap.size 35 _ l.length (keysC l) a.k a.s a.n rfl KQ.out 1 rfl hwz (by omega) ?_; intro g1 cap1 w4 hown hk4 hat; rw [EL.out, EK.out] at hown; have KQ' := Lib.hid hown; have IQ' := Lib.hid (rw_kept IQ.out hk4 (rw_ne KQ.out IQ.out (by decide))); have SQ' := Lib.hid (SQ.out.kept hk4 (fun q hq e => SQ.out.apart KQ.out (by decide) (by decide) q e hq) (fun q hq => (rw_type KQ.out hq).1)); have hwz := SQ'.out.below.size; clear hown hk4 hat KQ IQ SQ; have KQ := KQ'; have IQ := IQ'; have SQ := SQ'; clear KQ' IQ' SQ'; try rw [EL.out]) | (at_builtin; refine apr_int rfl (.tmp 53) (.tmp 54) rfl w.heap.size 3 _ l.length (stC l) 0 rfl IQ.out 1 rfl hwz (by omega) ?_; intro g2 cap2 w5 hown hk4 hat; rw [EL.out, EI.out] at hown; have IQ' := Lib.hid hown; have KQ' := Lib.hid (rw_kept KQ.out hk4 (rw_ne IQ.out KQ.out (by decide))); have SQ' := Lib.hid (SQ.out.kept hk4 (fun q hq e => SQ.out.apart IQ.out (by decide) (by decide) q e hq) (fun q hq => (rw_type IQ.out hq).1)); clear hown hk4 hat KQ IQ SQ hwz; have KQ := KQ'; have IQ := IQ'; have SQ := SQ'; clear KQ' IQ' SQ'; try rw [EL.out]))
          have HL2 := Lib.hid (openP_eq l2 c2)
          go_wp2_with fail
          refine (open_fs SQ.out (by omega) _ rfl).mono ?_
          rintro e w9 ⟨u, rfl, ho, S, hb⟩
          rw [HL2.out] at ho
          have SQ' := Lib.hid S; have KQ' := Lib.hid (rw_below KQ.out hb); have IQ' := Lib.hid (rw_below IQ.out hb)
          clear S SQ KQ IQ hb
          obtain ⟨ol, hol⟩ : ∃ ol, openM l2 c2 = ol := ⟨_, rfl⟩
          have HOS := Lib.hid (show ∀ m ∈ ol, m < l2.length ∧ (itemAt l2 m).st = 0 ∧ stB l2 c2 m = false from fun m hm => openM_spec' (hol ▸ hm))
          rw [hol] at ho
          have HO := Lib.hid hol
          have ho1 : Own w9 0 3 u (ol.map fun i => Value.int .i64 ((i : Nat) : Int)) := own_mono ho (Nat.zero_le _)
          obtain ⟨ao, cap', rfl⟩ := own_form ho1
          have HOWN := Lib.hid ho1
          clear hol ho ho1
          have hmapl : (ol.map fun i => Value.int .i64 ((i : Nat) : Int)).length = ol.length := by simp
          rw [hmapl] at HOWN ⊢
          clear hmapl
          go_wp2_with fail
          have hB := Below.refl w9.heap.size w9
          have hol1 : ol.length ≤ 1000000 := HLEN.out ol HO.out
          go_loopw [12] (fun i wq => ∃ p : Nat, i = .int .i64 p ∧ p ≤ ol.length ∧ Below w9.heap.size w9 wq) (fun i _ => ol.length - (intOf i).toNat)
          case atStart => exact ⟨0, rfl, Nat.zero_le _, hB⟩
          case round =>
            obtain ⟨p, rfl, hp, hB⟩ := hrel
            by_cases hpl : p < ol.length
            · have hpI : (p : Int) < ol.length := by omega
              obtain ⟨g, cp, hg, _, _, hc, _⟩ := own_cells HOWN.out (by simp; omega)
              simp only [List.length_map] at hg
              cases hg
              obtain ⟨m, hm⟩ : ∃ m, ol[p]'hpl = m := ⟨_, rfl⟩
              have hcp : wr.cell? ⟨g, p, none⟩ = some (.int .i64 (m : Int)) := by
                refine cb hB ((hc p (by simpa using hpl)).trans ?_)
                rw [List.getD_eq_getElem?_getD, List.getElem?_map, List.getElem?_eq_getElem hpl, hm]; rfl
              obtain ⟨hm1, hm2, _⟩ := HOS.out m (hm ▸ List.getElem_mem hpl)
              have HMIN := Lib.hid (show m ∈ ol from hm ▸ List.getElem_mem hpl)
              clear hc hm
              have hmI : (m : Int) < l2.length := by omega
              have hmI' : decide ((l2.length : Int) ≤ m) = false := by simp; omega
              obtain ⟨gi, ci, hgi, hi0⟩ : ∃ (gi : Nat) (ci : Nat), _ = Value.slice (some ⟨gi, 0, none⟩) l2.length ci ∧ wr.cell? ⟨gi, m, none⟩ = some (.int .i64 0) := by
                obtain ⟨gi, ci, hgi⟩ := rw_pos IQ'.out (by omega)
                have hi := IQ'.out
                rw [hgi] at hi
                refine ⟨gi, ci, hgi, cb hB (((rw_cells hi).2.2.1 m (by omega)).trans ?_)⟩
                rw [stC_getD hm1, hm2]; rfl
              obtain ⟨gk, ck, hgk⟩ := rw_pos KQ'.out (by omega)
              cases hgi
              cases hgk
              clear hm2
              go_upto_region 29 with fail
              have t2b : decide (2 ≤ a.kind % 7) = false := by simp; omega
              have hB := hB.drew
              refine region_seq (fun w' => Below w9.heap.size w9 w') [(0, true), (1, true), (2, true), (3, true), (4, true), (5, true), (6, true), (7, true), (8, true), (9, true), (10, true), (11, true), (12, true), (13, true), (14, true), (15, true), (16, true), (17, true), (18, true), (19, true), (20, true), (21, true), (22, true), (23, true), (24, true), (25, true)] (by kernel_rfl) (by kernel_rfl) (fun _ _ _ _ h => h) hB ?_
              try generalize World.drew _ = wS at hB ⊢
              refine seq_take (v := ?_) (a' := ?_) (some 116) rfl rfl (by rfl) ?_ ?_ ?_
              rotate_left; rotate_left
              · intro w' hS; go_simp; with_reducible rfl
              · simp only [Act.put, List.setIfInBounds_toArray, List.set_cons_zero, List.set_cons_succ]; rfl
              refine seq_take (v := ?_) (a' := ?_) (some 117) rfl rfl (by rfl) ?_ ?_ ?_
              rotate_left; rotate_left
              · intro w' hS; go_simp; with_reducible rfl
              · simp only [Act.put, List.setIfInBounds_toArray, List.set_cons_zero, List.set_cons_succ]; rfl
              refine seq_take (v := ?_) (a' := ?_) (some 118) rfl rfl (by rfl) ?_ ?_ ?_
              rotate_left; rotate_left
              · intro w' hS; go_simp; with_reducible rfl
              · simp only [Act.put, List.setIfInBounds_toArray, List.set_cons_zero, List.set_cons_succ]; rfl
              refine seq_skip (a' := ?_) (some 119) rfl rfl (by rfl) ?_ ?_
              rotate_left
              · simp only [Act.put, List.setIfInBounds_toArray, List.set_cons_zero, List.set_cons_succ]; rfl
              refine seq_skip (a' := ?_) (some 120) rfl rfl (by rfl) ?_ ?_
              rotate_left
              · simp only [Act.put, List.setIfInBounds_toArray, List.set_cons_zero, List.set_cons_succ]; rfl
              refine seq_take (v := ?_) (a' := ?_) (some 121) rfl rfl (by rfl) ?_ ?_ ?_
              rotate_left; rotate_left
              · intro w' hS; go_simp; with_reducible rfl
              · simp only [Act.put, List.setIfInBounds_toArray, List.set_cons_zero, List.set_cons_succ]; rfl
              refine seq_take (v := ?_) (a' := ?_) (some 122) rfl rfl (by rfl) ?_ ?_ ?_
              rotate_left; rotate_left
              · intro w' hS; go_simp; with_reducible rfl
              · simp only [Act.put, List.setIfInBounds_toArray, List.set_cons_zero, List.set_cons_succ]; rfl
              refine seq_skip (a' := ?_) (some 123) rfl rfl (by rfl) ?_ ?_
              rotate_left
              · simp only [Act.put, List.setIfInBounds_toArray, List.set_cons_zero, List.set_cons_succ]; rfl
              refine seq_skip (a' := ?_) (some 124) rfl rfl (by rfl) ?_ ?_
              rotate_left
              · simp only [Act.put, List.setIfInBounds_toArray, List.set_cons_zero, List.set_cons_succ]; rfl
              refine seq_take (v := ?_) (a' := ?_) (some 125) rfl rfl (by rfl) ?_ ?_ ?_
              rotate_left; rotate_left
              · intro w' hS; go_simp; with_reducible rfl
              · simp only [Act.put, List.setIfInBounds_toArray, List.set_cons_zero, List.set_cons_succ]; rfl
              refine seq_take (v := ?_) (a' := ?_) (some 126) rfl rfl (by rfl) ?_ ?_ ?_
              rotate_left; rotate_left
              · intro w' hS; go_simp; with_reducible rfl
              · simp only [Act.put, List.setIfInBounds_toArray, List.set_cons_zero, List.set_cons_succ]; rfl
              refine seq_skip (a' := ?_) (some 127) rfl rfl (by rfl) ?_ ?_
              rotate_left
              · simp only [Act.put, List.setIfInBounds_toArray, List.set_cons_zero, List.set_cons_succ]; rfl
              refine seq_skip (a' := ?_) (some 128) rfl rfl (by rfl) ?_ ?_
              rotate_left
              · simp only [Act.put, List.setIfInBounds_toArray, List.set_cons_zero, List.set_cons_succ]; rfl
              refine seq_skip (a' := ?_) (some 129) rfl rfl (by rfl) ?_ ?_
              rotate_left
              · simp only [Act.put, List.setIfInBounds_toArray, List.set_cons_zero, List.set_cons_succ]; rfl
              refine seq_take (v := ?_) (a' := ?_) (some 130) rfl rfl (by rfl) ?_ ?_ ?_
              rotate_left; rotate_left
              · intro w' hS; go_simp; with_reducible rfl
              · simp only [Act.put, List.setIfInBounds_toArray, List.set_cons_zero, List.set_cons_succ]; rfl
              refine seq_take (v := ?_) (a' := ?_) (some 131) rfl rfl (by rfl) ?_ ?_ ?_
              rotate_left; rotate_left
              · intro w' hS; go_simp; with_reducible rfl
              · simp only [Act.put, List.setIfInBounds_toArray, List.set_cons_zero, List.set_cons_succ]; rfl
              refine seq_skip (a' := ?_) (some 132) rfl rfl (by rfl) ?_ ?_
              rotate_left
              · simp only [Act.put, List.setIfInBounds_toArray, List.set_cons_zero, List.set_cons_succ]; rfl
              refine seq_skip (a' := ?_) (some 133) rfl rfl (by rfl) ?_ ?_
              rotate_left
              · simp only [Act.put, List.setIfInBounds_toArray, List.set_cons_zero, List.set_cons_succ]; rfl
              refine seq_skip (a' := ?_) (some 134) rfl rfl (by rfl) ?_ ?_
              rotate_left
              · simp only [Act.put, List.setIfInBounds_toArray, List.set_cons_zero, List.set_cons_succ]; rfl
              refine seq_skip (a' := ?_) (some 135) rfl rfl (by rfl) ?_ ?_
              rotate_left
              · simp only [Act.put, List.setIfInBounds_toArray, List.set_cons_zero, List.set_cons_succ]; rfl
              refine seq_skip (a' := ?_) (some 136) rfl rfl (by rfl) ?_ ?_
              rotate_left
              · simp only [Act.put, List.setIfInBounds_toArray, List.set_cons_zero, List.set_cons_succ]; rfl
              refine seq_skip (a' := ?_) (some 137) rfl rfl (by rfl) ?_ ?_
              rotate_left
              · simp only [Act.put, List.setIfInBounds_toArray, List.set_cons_zero, List.set_cons_succ]; rfl
              refine seq_skip (a' := ?_) (some 138) rfl rfl (by rfl) ?_ ?_
              rotate_left
              · simp only [Act.put, List.setIfInBounds_toArray, List.set_cons_zero, List.set_cons_succ]; rfl
              refine seq_skip (a' := ?_) (some 139) rfl rfl (by rfl) ?_ ?_
              rotate_left
              · simp only [Act.put, List.setIfInBounds_toArray, List.set_cons_zero, List.set_cons_succ]; rfl
              refine seq_skip (a' := ?_) (some 140) rfl rfl (by rfl) ?_ ?_
              rotate_left
              · simp only [Act.put, List.setIfInBounds_toArray, List.set_cons_zero, List.set_cons_succ]; rfl
              refine seq_take (v := ?_) (a' := ?_) (some 141) rfl rfl (by rfl) ?_ ?_ ?_
              rotate_left; rotate_left
              · intro w' hS; go_simp; with_reducible rfl
              · simp only [Act.put, List.setIfInBounds_toArray, List.set_cons_zero, List.set_cons_succ]; rfl
              refine seq_done ?_
              go_wp2_with fail
              go_roundw
              case rel => exact ⟨p + 1, by simp, by omega, hB⟩
              case measure => simp [intOf]; omega
            · obtain rfl : p = ol.length := by omega
              go_wp2_with fail
              go_roundw
              case rel => exact ⟨k + 1, c2, v2, _, _, l2, by simp, by omega, hl2, HGD.out, SQ'.out.read hB, rw_below KQ'.out hB, rw_below IQ'.out hB⟩
              case measure => simp [intOf]; omega
        | same e hi he =>
          have t1 : 2 ≤ a.kind % 7 := by unfold isGrow at hi; rw [hT] at hi; simp at hi; omega
          have he0 : (e == 0) = false := by simpa using he
          clear hi hT hdl he
          by_cases k5 : a.kind % 7 < 5
          · have k6 : a.kind % 7 < 6 := by omega
            have HGD := Lib.hid hgd; clear hgd
            go_wp2_with fail
            refine (do_fs SS.out (by omega) a q0 q1 (e) (l) (cov) HR.out).mono ?_
            rintro e w3 ⟨rfl, v2, S, hk3⟩
            have KQ := Lib.hid (rw_kept KK.out hk3 (SS.out.apart KK.out (by decide) (by decide)))
            have IQ := Lib.hid (rw_kept II.out hk3 (SS.out.apart II.out (by decide) (by decide)))
            have c1 := hk3.cell c1 (fun hx => by have := SS.out.base _ hx; simp at this; omega); have c2' := hk3.cell c2' (fun hx => by have := SS.out.base _ hx; simp at this; omega); have c3 := hk3.cell c3 (fun hx => by have := SS.out.base _ hx; simp at this; omega)
            have SQ := Lib.hid S
            clear S hk3 c0 c4
            obtain ⟨l2, rfl⟩ : ∃ l2 : List Item, l2 = l := ⟨_, rfl⟩
            obtain ⟨c2, rfl⟩ : ∃ c2' : Nat, c2' = cov := ⟨_, rfl⟩
            have hl2 : l2.length ≤ k + 1 := by omega
            have HLEN := Lib.hid (show ∀ ol, openM l2 c2 = ol → ol.length ≤ 1000000 from fun ol h => by have := openM_length l2 c2; rw [h] at this; omega)
            have HL2 := Lib.hid (openP_eq l2 c2)
            go_wp2_with fail
            refine (open_fs SQ.out (by omega) _ rfl).mono ?_
            rintro e w9 ⟨u, rfl, ho, S, hb⟩
            rw [HL2.out] at ho
            have SQ' := Lib.hid S; have KQ' := Lib.hid (rw_below KQ.out hb); have IQ' := Lib.hid (rw_below IQ.out hb)
            clear S SQ KQ IQ hb
            obtain ⟨ol, hol⟩ : ∃ ol, openM l2 c2 = ol := ⟨_, rfl⟩
            have HOS := Lib.hid (show ∀ m ∈ ol, m < l2.length ∧ (itemAt l2 m).st = 0 ∧ stB l2 c2 m = false from fun m hm => openM_spec' (hol ▸ hm))
            rw [hol] at ho
            have HO := Lib.hid hol
            have ho1 : Own w9 0 3 u (ol.map fun i => Value.int .i64 ((i : Nat) : Int)) := own_mono ho (Nat.zero_le _)
            obtain ⟨ao, cap', rfl⟩ := own_form ho1
            have HOWN := Lib.hid ho1
            clear hol ho ho1
            have hmapl : (ol.map fun i => Value.int .i64 ((i : Nat) : Int)).length = ol.length := by simp
            rw [hmapl] at HOWN ⊢
            clear hmapl
            go_wp2_with fail
            have hB := Below.refl w9.heap.size w9
            have hol1 : ol.length ≤ 1000000 := HLEN.out ol HO.out
            go_loopw [12] (fun i wq => ∃ p : Nat, i = .int .i64 p ∧ p ≤ ol.length ∧ Below w9.heap.size w9 wq) (fun i _ => ol.length - (intOf i).toNat)
            case atStart => exact ⟨0, rfl, Nat.zero_le _, hB⟩
            case round =>
              obtain ⟨p, rfl, hp, hB⟩ := hrel
              by_cases hpl : p < ol.length
              · have hpI : (p : Int) < ol.length := by omega
                obtain ⟨g, cp, hg, _, _, hc, _⟩ := own_cells HOWN.out (by simp; omega)
                simp only [List.length_map] at hg
                cases hg
                obtain ⟨m, hm⟩ : ∃ m, ol[p]'hpl = m := ⟨_, rfl⟩
                have hcp : wr.cell? ⟨g, p, none⟩ = some (.int .i64 (m : Int)) := by
                  refine cb hB ((hc p (by simpa using hpl)).trans ?_)
                  rw [List.getD_eq_getElem?_getD, List.getElem?_map, List.getElem?_eq_getElem hpl, hm]; rfl
                obtain ⟨hm1, hm2, _⟩ := HOS.out m (hm ▸ List.getElem_mem hpl)
                have HMIN := Lib.hid (show m ∈ ol from hm ▸ List.getElem_mem hpl)
                clear hc hm
                have hmI : (m : Int) < l2.length := by omega
                have hmI' : decide ((l2.length : Int) ≤ m) = false := by simp; omega
                obtain ⟨gi, ci, hgi, hi0⟩ : ∃ (gi : Nat) (ci : Nat), _ = Value.slice (some ⟨gi, 0, none⟩) l2.length ci ∧ wr.cell? ⟨gi, m, none⟩ = some (.int .i64 0) := by
                  obtain ⟨gi, ci, hgi⟩ := rw_pos IQ'.out (by omega)
                  have hi := IQ'.out
                  rw [hgi] at hi
                  refine ⟨gi, ci, hgi, cb hB (((rw_cells hi).2.2.1 m (by omega)).trans ?_)⟩
                  rw [stC_getD hm1, hm2]; rfl
                obtain ⟨gk, ck, hgk⟩ := rw_pos KQ'.out (by omega)
                cases hgi
                cases hgk
                clear hm2
                go_upto_region 29 with fail
                skip
                have hB := hB.drew
                refine region_seq (fun w' => Below w9.heap.size w9 w') [(0, true), (1, true), (2, true), (3, true), (4, true), (5, true), (6, true), (7, true), (8, true), (9, true), (10, true), (11, true), (12, true), (13, true), (14, true), (15, true), (16, true), (17, true), (18, true), (19, true), (20, true), (21, true), (22, true), (23, true), (24, true), (25, true)] (by kernel_rfl) (by kernel_rfl) (fun _ _ _ _ h => h) hB ?_
                try generalize World.drew _ = wS at hB ⊢
                refine seq_take (v := ?_) (a' := ?_) (some 116) rfl rfl (by rfl) ?_ ?_ ?_
                rotate_left; rotate_left
                · intro w' hS; go_simp; with_reducible rfl
                · simp only [Act.put, List.setIfInBounds_toArray, List.set_cons_zero, List.set_cons_succ]; rfl
                refine seq_take (v := ?_) (a' := ?_) (some 117) rfl rfl (by rfl) ?_ ?_ ?_
                rotate_left; rotate_left
                · intro w' hS; go_simp; with_reducible rfl
                · simp only [Act.put, List.setIfInBounds_toArray, List.set_cons_zero, List.set_cons_succ]; rfl
                refine seq_take (v := ?_) (a' := ?_) (some 118) rfl rfl (by rfl) ?_ ?_ ?_
                rotate_left; rotate_left
                · intro w' hS; go_simp; with_reducible rfl
                · simp only [Act.put, List.setIfInBounds_toArray, List.set_cons_zero, List.set_cons_succ]; rfl
                refine seq_take (v := ?_) (a' := ?_) (some 119) rfl rfl (by rfl) ?_ ?_ ?_
                rotate_left; rotate_left
                · intro w' hS; go_simp; with_reducible rfl
                · simp only [Act.put, List.setIfInBounds_toArray, List.set_cons_zero, List.set_cons_succ]; rfl
                refine seq_take (v := ?_) (a' := ?_) (some 120) rfl rfl (by rfl) ?_ ?_ ?_
                rotate_left; rotate_left
                · intro w' hS; go_simp; with_reducible rfl
                · simp only [Act.put, List.setIfInBounds_toArray, List.set_cons_zero, List.set_cons_succ]; rfl
                refine seq_take (v := ?_) (a' := ?_) (some 121) rfl rfl (by rfl) ?_ ?_ ?_
                rotate_left; rotate_left
                · intro w' hS; go_simp; with_reducible rfl
                · simp only [Act.put, List.setIfInBounds_toArray, List.set_cons_zero, List.set_cons_succ]; rfl
                refine seq_take (v := ?_) (a' := ?_) (some 122) rfl rfl (by rfl) ?_ ?_ ?_
                rotate_left; rotate_left
                · intro w' hS; go_simp; with_reducible rfl
                · simp only [Act.put, List.setIfInBounds_toArray, List.set_cons_zero, List.set_cons_succ]; rfl
                refine seq_take (v := ?_) (a' := ?_) (some 123) rfl rfl (by rfl) ?_ ?_ ?_
                rotate_left; rotate_left
                · intro w' hS; go_simp; with_reducible rfl
                · simp only [Act.put, List.setIfInBounds_toArray, List.set_cons_zero, List.set_cons_succ]; rfl
                refine seq_take (v := ?_) (a' := ?_) (some 124) rfl rfl (by rfl) ?_ ?_ ?_
                rotate_left; rotate_left
                · intro w' hS; go_simp; with_reducible rfl
                · simp only [Act.put, List.setIfInBounds_toArray, List.set_cons_zero, List.set_cons_succ]; rfl
                refine seq_take (v := ?_) (a' := ?_) (some 125) rfl rfl (by rfl) ?_ ?_ ?_
                rotate_left; rotate_left
                · intro w' hS; go_simp; with_reducible rfl
                · simp only [Act.put, List.setIfInBounds_toArray, List.set_cons_zero, List.set_cons_succ]; rfl
                refine seq_take (v := ?_) (a' := ?_) (some 126) rfl rfl (by rfl) ?_ ?_ ?_
                rotate_left; rotate_left
                · intro w' hS; go_simp; with_reducible rfl
                · simp only [Act.put, List.setIfInBounds_toArray, List.set_cons_zero, List.set_cons_succ]; rfl
                refine seq_skip (a' := ?_) (some 127) rfl rfl (by rfl) ?_ ?_
                rotate_left
                · simp only [Act.put, List.setIfInBounds_toArray, List.set_cons_zero, List.set_cons_succ]; rfl
                refine seq_skip (a' := ?_) (some 128) rfl rfl (by rfl) ?_ ?_
                rotate_left
                · simp only [Act.put, List.setIfInBounds_toArray, List.set_cons_zero, List.set_cons_succ]; rfl
                refine seq_skip (a' := ?_) (some 129) rfl rfl (by rfl) ?_ ?_
                rotate_left
                · simp only [Act.put, List.setIfInBounds_toArray, List.set_cons_zero, List.set_cons_succ]; rfl
                refine seq_take (v := ?_) (a' := ?_) (some 130) rfl rfl (by rfl) ?_ ?_ ?_
                rotate_left; rotate_left
                · intro w' hS; go_simp; with_reducible rfl
                · simp only [Act.put, List.setIfInBounds_toArray, List.set_cons_zero, List.set_cons_succ]; rfl
                refine seq_take (v := ?_) (a' := ?_) (some 131) rfl rfl (by rfl) ?_ ?_ ?_
                rotate_left; rotate_left
                · intro w' hS; go_simp; with_reducible rfl
                · simp only [Act.put, List.setIfInBounds_toArray, List.set_cons_zero, List.set_cons_succ]; rfl
                refine seq_skip (a' := ?_) (some 132) rfl rfl (by rfl) ?_ ?_
                rotate_left
                · simp only [Act.put, List.setIfInBounds_toArray, List.set_cons_zero, List.set_cons_succ]; rfl
                refine seq_skip (a' := ?_) (some 133) rfl rfl (by rfl) ?_ ?_
                rotate_left
                · simp only [Act.put, List.setIfInBounds_toArray, List.set_cons_zero, List.set_cons_succ]; rfl
                refine seq_skip (a' := ?_) (some 134) rfl rfl (by rfl) ?_ ?_
                rotate_left
                · simp only [Act.put, List.setIfInBounds_toArray, List.set_cons_zero, List.set_cons_succ]; rfl
                refine seq_skip (a' := ?_) (some 135) rfl rfl (by rfl) ?_ ?_
                rotate_left
                · simp only [Act.put, List.setIfInBounds_toArray, List.set_cons_zero, List.set_cons_succ]; rfl
                refine seq_skip (a' := ?_) (some 136) rfl rfl (by rfl) ?_ ?_
                rotate_left
                · simp only [Act.put, List.setIfInBounds_toArray, List.set_cons_zero, List.set_cons_succ]; rfl
                refine seq_skip (a' := ?_) (some 137) rfl rfl (by rfl) ?_ ?_
                rotate_left
                · simp only [Act.put, List.setIfInBounds_toArray, List.set_cons_zero, List.set_cons_succ]; rfl
                refine seq_skip (a' := ?_) (some 138) rfl rfl (by rfl) ?_ ?_
                rotate_left
                · simp only [Act.put, List.setIfInBounds_toArray, List.set_cons_zero, List.set_cons_succ]; rfl
                refine seq_skip (a' := ?_) (some 139) rfl rfl (by rfl) ?_ ?_
                rotate_left
                · simp only [Act.put, List.setIfInBounds_toArray, List.set_cons_zero, List.set_cons_succ]; rfl
                refine seq_skip (a' := ?_) (some 140) rfl rfl (by rfl) ?_ ?_
                rotate_left
                · simp only [Act.put, List.setIfInBounds_toArray, List.set_cons_zero, List.set_cons_succ]; rfl
                refine seq_take (v := ?_) (a' := ?_) (some 141) rfl rfl (by rfl) ?_ ?_ ?_
                rotate_left; rotate_left
                · intro w' hS; go_simp; with_reducible rfl
                · simp only [Act.put, List.setIfInBounds_toArray, List.set_cons_zero, List.set_cons_succ]; rfl
                refine seq_done ?_
                go_wp2_with fail
                go_roundw
                case rel => exact ⟨p + 1, by simp, by omega, hB⟩
                case measure => simp [intOf]; omega
              · obtain rfl : p = ol.length := by omega
                go_wp2_with fail
                go_roundw
                case rel => exact ⟨k + 1, c2, v2, _, _, l2, by simp, by omega, hl2, HGD.out, SQ'.out.read hB, rw_below KQ'.out hB, rw_below IQ'.out hB⟩
                case measure => simp [intOf]; omega
          by_cases k6 : a.kind % 7 < 6
          · have k5b : decide (a.kind % 7 < 5) = false := by simpa using k5
            have HGD := Lib.hid hgd; clear hgd
            go_wp2_with fail
            refine (do_fs SS.out (by omega) a q0 q1 (e) (l) (cov) HR.out).mono ?_
            rintro e w3 ⟨rfl, v2, S, hk3⟩
            have KQ := Lib.hid (rw_kept KK.out hk3 (SS.out.apart KK.out (by decide) (by decide)))
            have IQ := Lib.hid (rw_kept II.out hk3 (SS.out.apart II.out (by decide) (by decide)))
            have c1 := hk3.cell c1 (fun hx => by have := SS.out.base _ hx; simp at this; omega); have c2' := hk3.cell c2' (fun hx => by have := SS.out.base _ hx; simp at this; omega); have c3 := hk3.cell c3 (fun hx => by have := SS.out.base _ hx; simp at this; omega)
            have SQ := Lib.hid S
            clear S hk3 c0 c4
            obtain ⟨l2, rfl⟩ : ∃ l2 : List Item, l2 = l := ⟨_, rfl⟩
            obtain ⟨c2, rfl⟩ : ∃ c2' : Nat, c2' = cov := ⟨_, rfl⟩
            have hl2 : l2.length ≤ k + 1 := by omega
            have HLEN := Lib.hid (show ∀ ol, openM l2 c2 = ol → ol.length ≤ 1000000 from fun ol h => by have := openM_length l2 c2; rw [h] at this; omega)
            have HL2 := Lib.hid (openP_eq l2 c2)
            go_wp2_with fail
            refine (open_fs SQ.out (by omega) _ rfl).mono ?_
            rintro e w9 ⟨u, rfl, ho, S, hb⟩
            rw [HL2.out] at ho
            have SQ' := Lib.hid S; have KQ' := Lib.hid (rw_below KQ.out hb); have IQ' := Lib.hid (rw_below IQ.out hb)
            clear S SQ KQ IQ hb
            obtain ⟨ol, hol⟩ : ∃ ol, openM l2 c2 = ol := ⟨_, rfl⟩
            have HOS := Lib.hid (show ∀ m ∈ ol, m < l2.length ∧ (itemAt l2 m).st = 0 ∧ stB l2 c2 m = false from fun m hm => openM_spec' (hol ▸ hm))
            rw [hol] at ho
            have HO := Lib.hid hol
            have ho1 : Own w9 0 3 u (ol.map fun i => Value.int .i64 ((i : Nat) : Int)) := own_mono ho (Nat.zero_le _)
            obtain ⟨ao, cap', rfl⟩ := own_form ho1
            have HOWN := Lib.hid ho1
            clear hol ho ho1
            have hmapl : (ol.map fun i => Value.int .i64 ((i : Nat) : Int)).length = ol.length := by simp
            rw [hmapl] at HOWN ⊢
            clear hmapl
            go_wp2_with fail
            have hB := Below.refl w9.heap.size w9
            have hol1 : ol.length ≤ 1000000 := HLEN.out ol HO.out
            go_loopw [12] (fun i wq => ∃ p : Nat, i = .int .i64 p ∧ p ≤ ol.length ∧ Below w9.heap.size w9 wq) (fun i _ => ol.length - (intOf i).toNat)
            case atStart => exact ⟨0, rfl, Nat.zero_le _, hB⟩
            case round =>
              obtain ⟨p, rfl, hp, hB⟩ := hrel
              by_cases hpl : p < ol.length
              · have hpI : (p : Int) < ol.length := by omega
                obtain ⟨g, cp, hg, _, _, hc, _⟩ := own_cells HOWN.out (by simp; omega)
                simp only [List.length_map] at hg
                cases hg
                obtain ⟨m, hm⟩ : ∃ m, ol[p]'hpl = m := ⟨_, rfl⟩
                have hcp : wr.cell? ⟨g, p, none⟩ = some (.int .i64 (m : Int)) := by
                  refine cb hB ((hc p (by simpa using hpl)).trans ?_)
                  rw [List.getD_eq_getElem?_getD, List.getElem?_map, List.getElem?_eq_getElem hpl, hm]; rfl
                obtain ⟨hm1, hm2, _⟩ := HOS.out m (hm ▸ List.getElem_mem hpl)
                have HMIN := Lib.hid (show m ∈ ol from hm ▸ List.getElem_mem hpl)
                clear hc hm
                have hmI : (m : Int) < l2.length := by omega
                have hmI' : decide ((l2.length : Int) ≤ m) = false := by simp; omega
                obtain ⟨gi, ci, hgi, hi0⟩ : ∃ (gi : Nat) (ci : Nat), _ = Value.slice (some ⟨gi, 0, none⟩) l2.length ci ∧ wr.cell? ⟨gi, m, none⟩ = some (.int .i64 0) := by
                  obtain ⟨gi, ci, hgi⟩ := rw_pos IQ'.out (by omega)
                  have hi := IQ'.out
                  rw [hgi] at hi
                  refine ⟨gi, ci, hgi, cb hB (((rw_cells hi).2.2.1 m (by omega)).trans ?_)⟩
                  rw [stC_getD hm1, hm2]; rfl
                obtain ⟨gk, ck, hgk⟩ := rw_pos KQ'.out (by omega)
                cases hgi
                cases hgk
                clear hm2
                go_upto_region 29 with fail
                skip
                have hB := hB.drew
                refine region_seq (fun w' => Below w9.heap.size w9 w') [(0, true), (1, true), (2, true), (3, true), (4, true), (5, true), (6, true), (7, true), (8, true), (9, true), (10, true), (11, true), (12, true), (13, true), (14, true), (15, true), (16, true), (17, true), (18, true), (19, true), (20, true), (21, true), (22, true), (23, true), (24, true), (25, true)] (by kernel_rfl) (by kernel_rfl) (fun _ _ _ _ h => h) hB ?_
                try generalize World.drew _ = wS at hB ⊢
                refine seq_take (v := ?_) (a' := ?_) (some 116) rfl rfl (by rfl) ?_ ?_ ?_
                rotate_left; rotate_left
                · intro w' hS; go_simp; with_reducible rfl
                · simp only [Act.put, List.setIfInBounds_toArray, List.set_cons_zero, List.set_cons_succ]; rfl
                refine seq_take (v := ?_) (a' := ?_) (some 117) rfl rfl (by rfl) ?_ ?_ ?_
                rotate_left; rotate_left
                · intro w' hS; go_simp; with_reducible rfl
                · simp only [Act.put, List.setIfInBounds_toArray, List.set_cons_zero, List.set_cons_succ]; rfl
                refine seq_take (v := ?_) (a' := ?_) (some 118) rfl rfl (by rfl) ?_ ?_ ?_
                rotate_left; rotate_left
                · intro w' hS; go_simp; with_reducible rfl
                · simp only [Act.put, List.setIfInBounds_toArray, List.set_cons_zero, List.set_cons_succ]; rfl
                refine seq_take (v := ?_) (a' := ?_) (some 119) rfl rfl (by rfl) ?_ ?_ ?_
                rotate_left; rotate_left
                · intro w' hS; go_simp; with_reducible rfl
                · simp only [Act.put, List.setIfInBounds_toArray, List.set_cons_zero, List.set_cons_succ]; rfl
                refine seq_take (v := ?_) (a' := ?_) (some 120) rfl rfl (by rfl) ?_ ?_ ?_
                rotate_left; rotate_left
                · intro w' hS; go_simp; with_reducible rfl
                · simp only [Act.put, List.setIfInBounds_toArray, List.set_cons_zero, List.set_cons_succ]; rfl
                refine seq_take (v := ?_) (a' := ?_) (some 121) rfl rfl (by rfl) ?_ ?_ ?_
                rotate_left; rotate_left
                · intro w' hS; go_simp; with_reducible rfl
                · simp only [Act.put, List.setIfInBounds_toArray, List.set_cons_zero, List.set_cons_succ]; rfl
                refine seq_take (v := ?_) (a' := ?_) (some 122) rfl rfl (by rfl) ?_ ?_ ?_
                rotate_left; rotate_left
                · intro w' hS; go_simp; with_reducible rfl
                · simp only [Act.put, List.setIfInBounds_toArray, List.set_cons_zero, List.set_cons_succ]; rfl
                refine seq_skip (a' := ?_) (some 123) rfl rfl (by rfl) ?_ ?_
                rotate_left
                · simp only [Act.put, List.setIfInBounds_toArray, List.set_cons_zero, List.set_cons_succ]; rfl
                refine seq_skip (a' := ?_) (some 124) rfl rfl (by rfl) ?_ ?_
                rotate_left
                · simp only [Act.put, List.setIfInBounds_toArray, List.set_cons_zero, List.set_cons_succ]; rfl
                refine seq_take (v := ?_) (a' := ?_) (some 125) rfl rfl (by rfl) ?_ ?_ ?_
                rotate_left; rotate_left
                · intro w' hS; go_simp; with_reducible rfl
                · simp only [Act.put, List.setIfInBounds_toArray, List.set_cons_zero, List.set_cons_succ]; rfl
                refine seq_take (v := ?_) (a' := ?_) (some 126) rfl rfl (by rfl) ?_ ?_ ?_
                rotate_left; rotate_left
                · intro w' hS; go_simp; with_reducible rfl
                · simp only [Act.put, List.setIfInBounds_toArray, List.set_cons_zero, List.set_cons_succ]; rfl
                refine seq_skip (a' := ?_) (some 127) rfl rfl (by rfl) ?_ ?_
                rotate_left
                · simp only [Act.put, List.setIfInBounds_toArray, List.set_cons_zero, List.set_cons_succ]; rfl
                refine seq_skip (a' := ?_) (some 128) rfl rfl (by rfl) ?_ ?_
                rotate_left
                · simp only [Act.put, List.setIfInBounds_toArray, List.set_cons_zero, List.set_cons_succ]; rfl
                refine seq_skip (a' := ?_) (some 129) rfl rfl (by rfl) ?_ ?_
                rotate_left
                · simp only [Act.put, List.setIfInBounds_toArray, List.set_cons_zero, List.set_cons_succ]; rfl
                refine seq_take (v := ?_) (a' := ?_) (some 130) rfl rfl (by rfl) ?_ ?_ ?_
                rotate_left; rotate_left
                · intro w' hS; go_simp; with_reducible rfl
                · simp only [Act.put, List.setIfInBounds_toArray, List.set_cons_zero, List.set_cons_succ]; rfl
                refine seq_take (v := ?_) (a' := ?_) (some 131) rfl rfl (by rfl) ?_ ?_ ?_
                rotate_left; rotate_left
                · intro w' hS; go_simp; with_reducible rfl
                · simp only [Act.put, List.setIfInBounds_toArray, List.set_cons_zero, List.set_cons_succ]; rfl
                refine seq_skip (a' := ?_) (some 132) rfl rfl (by rfl) ?_ ?_
                rotate_left
                · simp only [Act.put, List.setIfInBounds_toArray, List.set_cons_zero, List.set_cons_succ]; rfl
                refine seq_skip (a' := ?_) (some 133) rfl rfl (by rfl) ?_ ?_
                rotate_left
                · simp only [Act.put, List.setIfInBounds_toArray, List.set_cons_zero, List.set_cons_succ]; rfl
                refine seq_skip (a' := ?_) (some 134) rfl rfl (by rfl) ?_ ?_
                rotate_left
                · simp only [Act.put, List.setIfInBounds_toArray, List.set_cons_zero, List.set_cons_succ]; rfl
                refine seq_skip (a' := ?_) (some 135) rfl rfl (by rfl) ?_ ?_
                rotate_left
                · simp only [Act.put, List.setIfInBounds_toArray, List.set_cons_zero, List.set_cons_succ]; rfl
                refine seq_skip (a' := ?_) (some 136) rfl rfl (by rfl) ?_ ?_
                rotate_left
                · simp only [Act.put, List.setIfInBounds_toArray, List.set_cons_zero, List.set_cons_succ]; rfl
                refine seq_skip (a' := ?_) (some 137) rfl rfl (by rfl) ?_ ?_
                rotate_left
                · simp only [Act.put, List.setIfInBounds_toArray, List.set_cons_zero, List.set_cons_succ]; rfl
                refine seq_skip (a' := ?_) (some 138) rfl rfl (by rfl) ?_ ?_
                rotate_left
                · simp only [Act.put, List.setIfInBounds_toArray, List.set_cons_zero, List.set_cons_succ]; rfl
                refine seq_skip (a' := ?_) (some 139) rfl rfl (by rfl) ?_ ?_
                rotate_left
                · simp only [Act.put, List.setIfInBounds_toArray, List.set_cons_zero, List.set_cons_succ]; rfl
                refine seq_skip (a' := ?_) (some 140) rfl rfl (by rfl) ?_ ?_
                rotate_left
                · simp only [Act.put, List.setIfInBounds_toArray, List.set_cons_zero, List.set_cons_succ]; rfl
                refine seq_take (v := ?_) (a' := ?_) (some 141) rfl rfl (by rfl) ?_ ?_ ?_
                rotate_left; rotate_left
                · intro w' hS; go_simp; with_reducible rfl
                · simp only [Act.put, List.setIfInBounds_toArray, List.set_cons_zero, List.set_cons_succ]; rfl
                refine seq_done ?_
                go_wp2_with fail
                go_roundw
                case rel => exact ⟨p + 1, by simp, by omega, hB⟩
                case measure => simp [intOf]; omega
              · obtain rfl : p = ol.length := by omega
                go_wp2_with fail
                go_roundw
                case rel => exact ⟨k + 1, c2, v2, _, _, l2, by simp, by omega, hl2, HGD.out, SQ'.out.read hB, rw_below KQ'.out hB, rw_below IQ'.out hB⟩
                case measure => simp [intOf]; omega
          have k5b : decide (a.kind % 7 < 5) = false := by simpa using k5
          have k6b : 6 ≤ a.kind % 7 := by omega
          have HGD := Lib.hid hgd; clear hgd
          go_wp2_with fail
          refine (do_fs SS.out (by omega) a q0 q1 (e) (l) (cov) HR.out).mono ?_
          rintro e w3 ⟨rfl, v2, S, hk3⟩
          have KQ := Lib.hid (rw_kept KK.out hk3 (SS.out.apart KK.out (by decide) (by decide)))
          have IQ := Lib.hid (rw_kept II.out hk3 (SS.out.apart II.out (by decide) (by decide)))
          have c1 := hk3.cell c1 (fun hx => by have := SS.out.base _ hx; simp at this; omega); have c2' := hk3.cell c2' (fun hx => by have := SS.out.base _ hx; simp at this; omega); have c3 := hk3.cell c3 (fun hx => by have := SS.out.base _ hx; simp at this; omega)
          have SQ := Lib.hid S
          clear S hk3 c0 c4
          obtain ⟨l2, rfl⟩ : ∃ l2 : List Item, l2 = l := ⟨_, rfl⟩
          obtain ⟨c2, rfl⟩ : ∃ c2' : Nat, c2' = cov := ⟨_, rfl⟩
          have hl2 : l2.length ≤ k + 1 := by omega
          have HLEN := Lib.hid (show ∀ ol, openM l2 c2 = ol → ol.length ≤ 1000000 from fun ol h => by have := openM_length l2 c2; rw [h] at this; omega)
          have HL2 := Lib.hid (openP_eq l2 c2)
          go_wp2_with fail
          refine (open_fs SQ.out (by omega) _ rfl).mono ?_
          rintro e w9 ⟨u, rfl, ho, S, hb⟩
          rw [HL2.out] at ho
          have SQ' := Lib.hid S; have KQ' := Lib.hid (rw_below KQ.out hb); have IQ' := Lib.hid (rw_below IQ.out hb)
          clear S SQ KQ IQ hb
          obtain ⟨ol, hol⟩ : ∃ ol, openM l2 c2 = ol := ⟨_, rfl⟩
          have HOS := Lib.hid (show ∀ m ∈ ol, m < l2.length ∧ (itemAt l2 m).st = 0 ∧ stB l2 c2 m = false from fun m hm => openM_spec' (hol ▸ hm))
          rw [hol] at ho
          have HO := Lib.hid hol
          have ho1 : Own w9 0 3 u (ol.map fun i => Value.int .i64 ((i : Nat) : Int)) := own_mono ho (Nat.zero_le _)
          obtain ⟨ao, cap', rfl⟩ := own_form ho1
          have HOWN := Lib.hid ho1
          clear hol ho ho1
          have hmapl : (ol.map fun i => Value.int .i64 ((i : Nat) : Int)).length = ol.length := by simp
          rw [hmapl] at HOWN ⊢
          clear hmapl
          go_wp2_with fail
          have hB := Below.refl w9.heap.size w9
          have hol1 : ol.length ≤ 1000000 := HLEN.out ol HO.out
          go_loopw [12] (fun i wq => ∃ p : Nat, i = .int .i64 p ∧ p ≤ ol.length ∧ Below w9.heap.size w9 wq) (fun i _ => ol.length - (intOf i).toNat)
          case atStart => exact ⟨0, rfl, Nat.zero_le _, hB⟩
          case round =>
            obtain ⟨p, rfl, hp, hB⟩ := hrel
            by_cases hpl : p < ol.length
            · have hpI : (p : Int) < ol.length := by omega
              obtain ⟨g, cp, hg, _, _, hc, _⟩ := own_cells HOWN.out (by simp; omega)
              simp only [List.length_map] at hg
              cases hg
              obtain ⟨m, hm⟩ : ∃ m, ol[p]'hpl = m := ⟨_, rfl⟩
              have hcp : wr.cell? ⟨g, p, none⟩ = some (.int .i64 (m : Int)) := by
                refine cb hB ((hc p (by simpa using hpl)).trans ?_)
                rw [List.getD_eq_getElem?_getD, List.getElem?_map, List.getElem?_eq_getElem hpl, hm]; rfl
              obtain ⟨hm1, hm2, _⟩ := HOS.out m (hm ▸ List.getElem_mem hpl)
              have HMIN := Lib.hid (show m ∈ ol from hm ▸ List.getElem_mem hpl)
              clear hc hm
              have hmI : (m : Int) < l2.length := by omega
              have hmI' : decide ((l2.length : Int) ≤ m) = false := by simp; omega
              obtain ⟨gi, ci, hgi, hi0⟩ : ∃ (gi : Nat) (ci : Nat), _ = Value.slice (some ⟨gi, 0, none⟩) l2.length ci ∧ wr.cell? ⟨gi, m, none⟩ = some (.int .i64 0) := by
                obtain ⟨gi, ci, hgi⟩ := rw_pos IQ'.out (by omega)
                have hi := IQ'.out
                rw [hgi] at hi
                refine ⟨gi, ci, hgi, cb hB (((rw_cells hi).2.2.1 m (by omega)).trans ?_)⟩
                rw [stC_getD hm1, hm2]; rfl
              obtain ⟨gk, ck, hgk⟩ := rw_pos KQ'.out (by omega)
              cases hgi
              cases hgk
              clear hm2
              go_upto_region 29 with fail
              skip
              have hB := hB.drew
              refine region_seq (fun w' => Below w9.heap.size w9 w') [(0, true), (1, true), (2, true), (3, true), (4, true), (5, true), (6, true), (7, true), (8, true), (9, true), (10, true), (11, true), (12, true), (13, true), (14, true), (15, true), (16, true), (17, true), (18, true), (19, true), (20, true), (21, true), (22, true), (23, true), (24, true), (25, true)] (by kernel_rfl) (by kernel_rfl) (fun _ _ _ _ h => h) hB ?_
              try generalize World.drew _ = wS at hB ⊢
              refine seq_take (v := ?_) (a' := ?_) (some 116) rfl rfl (by rfl) ?_ ?_ ?_
              rotate_left; rotate_left
              · intro w' hS; go_simp; with_reducible rfl
              · simp only [Act.put, List.setIfInBounds_toArray, List.set_cons_zero, List.set_cons_succ]; rfl
              refine seq_take (v := ?_) (a' := ?_) (some 117) rfl rfl (by rfl) ?_ ?_ ?_
              rotate_left; rotate_left
              · intro w' hS; go_simp; with_reducible rfl
              · simp only [Act.put, List.setIfInBounds_toArray, List.set_cons_zero, List.set_cons_succ]; rfl
              refine seq_take (v := ?_) (a' := ?_) (some 118) rfl rfl (by rfl) ?_ ?_ ?_
              rotate_left; rotate_left
              · intro w' hS; go_simp; with_reducible rfl
              · simp only [Act.put, List.setIfInBounds_toArray, List.set_cons_zero, List.set_cons_succ]; rfl
              refine seq_take (v := ?_) (a' := ?_) (some 119) rfl rfl (by rfl) ?_ ?_ ?_
              rotate_left; rotate_left
              · intro w' hS; go_simp; with_reducible rfl
              · simp only [Act.put, List.setIfInBounds_toArray, List.set_cons_zero, List.set_cons_succ]; rfl
              refine seq_take (v := ?_) (a' := ?_) (some 120) rfl rfl (by rfl) ?_ ?_ ?_
              rotate_left; rotate_left
              · intro w' hS; go_simp; with_reducible rfl
              · simp only [Act.put, List.setIfInBounds_toArray, List.set_cons_zero, List.set_cons_succ]; rfl
              refine seq_take (v := ?_) (a' := ?_) (some 121) rfl rfl (by rfl) ?_ ?_ ?_
              rotate_left; rotate_left
              · intro w' hS; go_simp; with_reducible rfl
              · simp only [Act.put, List.setIfInBounds_toArray, List.set_cons_zero, List.set_cons_succ]; rfl
              refine seq_take (v := ?_) (a' := ?_) (some 122) rfl rfl (by rfl) ?_ ?_ ?_
              rotate_left; rotate_left
              · intro w' hS; go_simp; with_reducible rfl
              · simp only [Act.put, List.setIfInBounds_toArray, List.set_cons_zero, List.set_cons_succ]; rfl
              refine seq_skip (a' := ?_) (some 123) rfl rfl (by rfl) ?_ ?_
              rotate_left
              · simp only [Act.put, List.setIfInBounds_toArray, List.set_cons_zero, List.set_cons_succ]; rfl
              refine seq_skip (a' := ?_) (some 124) rfl rfl (by rfl) ?_ ?_
              rotate_left
              · simp only [Act.put, List.setIfInBounds_toArray, List.set_cons_zero, List.set_cons_succ]; rfl
              refine seq_take (v := ?_) (a' := ?_) (some 125) rfl rfl (by rfl) ?_ ?_ ?_
              rotate_left; rotate_left
              · intro w' hS; go_simp; with_reducible rfl
              · simp only [Act.put, List.setIfInBounds_toArray, List.set_cons_zero, List.set_cons_succ]; rfl
              refine seq_take (v := ?_) (a' := ?_) (some 126) rfl rfl (by rfl) ?_ ?_ ?_
              rotate_left; rotate_left
              · intro w' hS; go_simp; with_reducible rfl
              · simp only [Act.put, List.setIfInBounds_toArray, List.set_cons_zero, List.set_cons_succ]; rfl
              refine seq_skip (a' := ?_) (some 127) rfl rfl (by rfl) ?_ ?_
              rotate_left
              · simp only [Act.put, List.setIfInBounds_toArray, List.set_cons_zero, List.set_cons_succ]; rfl
              refine seq_skip (a' := ?_) (some 128) rfl rfl (by rfl) ?_ ?_
              rotate_left
              · simp only [Act.put, List.setIfInBounds_toArray, List.set_cons_zero, List.set_cons_succ]; rfl
              refine seq_skip (a' := ?_) (some 129) rfl rfl (by rfl) ?_ ?_
              rotate_left
              · simp only [Act.put, List.setIfInBounds_toArray, List.set_cons_zero, List.set_cons_succ]; rfl
              refine seq_take (v := ?_) (a' := ?_) (some 130) rfl rfl (by rfl) ?_ ?_ ?_
              rotate_left; rotate_left
              · intro w' hS; go_simp; with_reducible rfl
              · simp only [Act.put, List.setIfInBounds_toArray, List.set_cons_zero, List.set_cons_succ]; rfl
              refine seq_take (v := ?_) (a' := ?_) (some 131) rfl rfl (by rfl) ?_ ?_ ?_
              rotate_left; rotate_left
              · intro w' hS; go_simp; with_reducible rfl
              · simp only [Act.put, List.setIfInBounds_toArray, List.set_cons_zero, List.set_cons_succ]; rfl
              refine seq_skip (a' := ?_) (some 132) rfl rfl (by rfl) ?_ ?_
              rotate_left
              · simp only [Act.put, List.setIfInBounds_toArray, List.set_cons_zero, List.set_cons_succ]; rfl
              refine seq_skip (a' := ?_) (some 133) rfl rfl (by rfl) ?_ ?_
              rotate_left
              · simp only [Act.put, List.setIfInBounds_toArray, List.set_cons_zero, List.set_cons_succ]; rfl
              refine seq_skip (a' := ?_) (some 134) rfl rfl (by rfl) ?_ ?_
              rotate_left
              · simp only [Act.put, List.setIfInBounds_toArray, List.set_cons_zero, List.set_cons_succ]; rfl
              refine seq_skip (a' := ?_) (some 135) rfl rfl (by rfl) ?_ ?_
              rotate_left
              · simp only [Act.put, List.setIfInBounds_toArray, List.set_cons_zero, List.set_cons_succ]; rfl
              refine seq_skip (a' := ?_) (some 136) rfl rfl (by rfl) ?_ ?_
              rotate_left
              · simp only [Act.put, List.setIfInBounds_toArray, List.set_cons_zero, List.set_cons_succ]; rfl
              refine seq_skip (a' := ?_) (some 137) rfl rfl (by rfl) ?_ ?_
              rotate_left
              · simp only [Act.put, List.setIfInBounds_toArray, List.set_cons_zero, List.set_cons_succ]; rfl
              refine seq_skip (a' := ?_) (some 138) rfl rfl (by rfl) ?_ ?_
              rotate_left
              · simp only [Act.put, List.setIfInBounds_toArray, List.set_cons_zero, List.set_cons_succ]; rfl
              refine seq_skip (a' := ?_) (some 139) rfl rfl (by rfl) ?_ ?_
              rotate_left
              · simp only [Act.put, List.setIfInBounds_toArray, List.set_cons_zero, List.set_cons_succ]; rfl
              refine seq_skip (a' := ?_) (some 140) rfl rfl (by rfl) ?_ ?_
              rotate_left
              · simp only [Act.put, List.setIfInBounds_toArray, List.set_cons_zero, List.set_cons_succ]; rfl
              refine seq_take (v := ?_) (a' := ?_) (some 141) rfl rfl (by rfl) ?_ ?_ ?_
              rotate_left; rotate_left
              · intro w' hS; go_simp; with_reducible rfl
              · simp only [Act.put, List.setIfInBounds_toArray, List.set_cons_zero, List.set_cons_succ]; rfl
              refine seq_done ?_
              go_wp2_with fail
              go_roundw
              case rel => exact ⟨p + 1, by simp, by omega, hB⟩
              case measure => simp [intOf]; omega
            · obtain rfl : p = ol.length := by omega
              go_wp2_with fail
              go_roundw
              case rel => exact ⟨k + 1, c2, v2, _, _, l2, by simp, by omega, hl2, HGD.out, SQ'.out.read hB, rw_below KQ'.out hB, rw_below IQ'.out hB⟩
              case measure => simp [intOf]; omega
        | cover c h6 hi hc1 hc2 =>
          rw [hT] at h6
          have t1 : 2 ≤ a.kind % 7 := by omega
          have k5b : decide (a.kind % 7 < 5) = false := by simp; omega
          have k6b : 6 ≤ a.kind % 7 := by omega
          clear hi hT hdl h6
          have HGD := Lib.hid hgd; clear hgd
          go_wp2_with fail
          refine (do_fs SS.out (by omega) a q0 q1 (0) (l) (c) HR.out).mono ?_
          rintro e w3 ⟨rfl, v2, S, hk3⟩
          have KQ := Lib.hid (rw_kept KK.out hk3 (SS.out.apart KK.out (by decide) (by decide)))
          have IQ := Lib.hid (rw_kept II.out hk3 (SS.out.apart II.out (by decide) (by decide)))
          have c1 := hk3.cell c1 (fun hx => by have := SS.out.base _ hx; simp at this; omega); have c2' := hk3.cell c2' (fun hx => by have := SS.out.base _ hx; simp at this; omega); have c3 := hk3.cell c3 (fun hx => by have := SS.out.base _ hx; simp at this; omega)
          have SQ := Lib.hid S
          clear S hk3 c0 c4
          obtain ⟨l2, rfl⟩ : ∃ l2 : List Item, l2 = l := ⟨_, rfl⟩
          obtain ⟨c2, rfl⟩ : ∃ c2' : Nat, c2' = c := ⟨_, rfl⟩
          have hl2 : l2.length ≤ k + 1 := by omega
          have HLEN := Lib.hid (show ∀ ol, openM l2 c2 = ol → ol.length ≤ 1000000 from fun ol h => by have := openM_length l2 c2; rw [h] at this; omega)
          have HL2 := Lib.hid (openP_eq l2 c2)
          go_wp2_with fail
          refine (open_fs SQ.out (by omega) _ rfl).mono ?_
          rintro e w9 ⟨u, rfl, ho, S, hb⟩
          rw [HL2.out] at ho
          have SQ' := Lib.hid S; have KQ' := Lib.hid (rw_below KQ.out hb); have IQ' := Lib.hid (rw_below IQ.out hb)
          clear S SQ KQ IQ hb
          obtain ⟨ol, hol⟩ : ∃ ol, openM l2 c2 = ol := ⟨_, rfl⟩
          have HOS := Lib.hid (show ∀ m ∈ ol, m < l2.length ∧ (itemAt l2 m).st = 0 ∧ stB l2 c2 m = false from fun m hm => openM_spec' (hol ▸ hm))
          rw [hol] at ho
          have HO := Lib.hid hol
          have ho1 : Own w9 0 3 u (ol.map fun i => Value.int .i64 ((i : Nat) : Int)) := own_mono ho (Nat.zero_le _)
          obtain ⟨ao, cap', rfl⟩ := own_form ho1
          have HOWN := Lib.hid ho1
          clear hol ho ho1
          have hmapl : (ol.map fun i => Value.int .i64 ((i : Nat) : Int)).length = ol.length := by simp
          rw [hmapl] at HOWN ⊢
          clear hmapl
          go_wp2_with fail
          have hB := Below.refl w9.heap.size w9
          have hol1 : ol.length ≤ 1000000 := HLEN.out ol HO.out
          go_loopw [12] (fun i wq => ∃ p : Nat, i = .int .i64 p ∧ p ≤ ol.length ∧ Below w9.heap.size w9 wq) (fun i _ => ol.length - (intOf i).toNat)
          case atStart => exact ⟨0, rfl, Nat.zero_le _, hB⟩
          case round =>
            obtain ⟨p, rfl, hp, hB⟩ := hrel
            by_cases hpl : p < ol.length
            · have hpI : (p : Int) < ol.length := by omega
              obtain ⟨g, cp, hg, _, _, hc, _⟩ := own_cells HOWN.out (by simp; omega)
              simp only [List.length_map] at hg
              cases hg
              obtain ⟨m, hm⟩ : ∃ m, ol[p]'hpl = m := ⟨_, rfl⟩
              have hcp : wr.cell? ⟨g, p, none⟩ = some (.int .i64 (m : Int)) := by
                refine cb hB ((hc p (by simpa using hpl)).trans ?_)
                rw [List.getD_eq_getElem?_getD, List.getElem?_map, List.getElem?_eq_getElem hpl, hm]; rfl
              obtain ⟨hm1, hm2, _⟩ := HOS.out m (hm ▸ List.getElem_mem hpl)
              have HMIN := Lib.hid (show m ∈ ol from hm ▸ List.getElem_mem hpl)
              clear hc hm
              have hmI : (m : Int) < l2.length := by omega
              have hmI' : decide ((l2.length : Int) ≤ m) = false := by simp; omega
              obtain ⟨gi, ci, hgi, hi0⟩ : ∃ (gi : Nat) (ci : Nat), _ = Value.slice (some ⟨gi, 0, none⟩) l2.length ci ∧ wr.cell? ⟨gi, m, none⟩ = some (.int .i64 0) := by
                obtain ⟨gi, ci, hgi⟩ := rw_pos IQ'.out (by omega)
                have hi := IQ'.out
                rw [hgi] at hi
                refine ⟨gi, ci, hgi, cb hB (((rw_cells hi).2.2.1 m (by omega)).trans ?_)⟩
                rw [stC_getD hm1, hm2]; rfl
              obtain ⟨gk, ck, hgk⟩ := rw_pos KQ'.out (by omega)
              cases hgi
              cases hgk
              clear hm2
              go_upto_region 29 with fail
              skip
              have hB := hB.drew
              refine region_seq (fun w' => Below w9.heap.size w9 w') [(0, true), (1, true), (2, true), (3, true), (4, true), (5, true), (6, true), (7, true), (8, true), (9, true), (10, true), (11, true), (12, true), (13, true), (14, true), (15, true), (16, true), (17, true), (18, true), (19, true), (20, true), (21, true), (22, true), (23, true), (24, true), (25, true)] (by kernel_rfl) (by kernel_rfl) (fun _ _ _ _ h => h) hB ?_
              try generalize World.drew _ = wS at hB ⊢
              refine seq_take (v := ?_) (a' := ?_) (some 116) rfl rfl (by rfl) ?_ ?_ ?_
              rotate_left; rotate_left
              · intro w' hS; go_simp; with_reducible rfl
              · simp only [Act.put, List.setIfInBounds_toArray, List.set_cons_zero, List.set_cons_succ]; rfl
              refine seq_take (v := ?_) (a' := ?_) (some 117) rfl rfl (by rfl) ?_ ?_ ?_
              rotate_left; rotate_left
              · intro w' hS; go_simp; with_reducible rfl
              · simp only [Act.put, List.setIfInBounds_toArray, List.set_cons_zero, List.set_cons_succ]; rfl
              refine seq_take (v := ?_) (a' := ?_) (some 118) rfl rfl (by rfl) ?_ ?_ ?_
              rotate_left; rotate_left
              · intro w' hS; go_simp; with_reducible rfl
              · simp only [Act.put, List.setIfInBounds_toArray, List.set_cons_zero, List.set_cons_succ]; rfl
              refine seq_take (v := ?_) (a' := ?_) (some 119) rfl rfl (by rfl) ?_ ?_ ?_
              rotate_left; rotate_left
              · intro w' hS; go_simp; with_reducible rfl
              · simp only [Act.put, List.setIfInBounds_toArray, List.set_cons_zero, List.set_cons_succ]; rfl
              refine seq_take (v := ?_) (a' := ?_) (some 120) rfl rfl (by rfl) ?_ ?_ ?_
              rotate_left; rotate_left
              · intro w' hS; go_simp; with_reducible rfl
              · simp only [Act.put, List.setIfInBounds_toArray, List.set_cons_zero, List.set_cons_succ]; rfl
              refine seq_take (v := ?_) (a' := ?_) (some 121) rfl rfl (by rfl) ?_ ?_ ?_
              rotate_left; rotate_left
              · intro w' hS; go_simp; with_reducible rfl
              · simp only [Act.put, List.setIfInBounds_toArray, List.set_cons_zero, List.set_cons_succ]; rfl
              refine seq_take (v := ?_) (a' := ?_) (some 122) rfl rfl (by rfl) ?_ ?_ ?_
              rotate_left; rotate_left
              · intro w' hS; go_simp; with_reducible rfl
              · simp only [Act.put, List.setIfInBounds_toArray, List.set_cons_zero, List.set_cons_succ]; rfl
              refine seq_skip (a' := ?_) (some 123) rfl rfl (by rfl) ?_ ?_
              rotate_left
              · simp only [Act.put, List.setIfInBounds_toArray, List.set_cons_zero, List.set_cons_succ]; rfl
              refine seq_skip (a' := ?_) (some 124) rfl rfl (by rfl) ?_ ?_
              rotate_left
              · simp only [Act.put, List.setIfInBounds_toArray, List.set_cons_zero, List.set_cons_succ]; rfl
              refine seq_take (v := ?_) (a' := ?_) (some 125) rfl rfl (by rfl) ?_ ?_ ?_
              rotate_left; rotate_left
              · intro w' hS; go_simp; with_reducible rfl
              · simp only [Act.put, List.setIfInBounds_toArray, List.set_cons_zero, List.set_cons_succ]; rfl
              refine seq_take (v := ?_) (a' := ?_) (some 126) rfl rfl (by rfl) ?_ ?_ ?_
              rotate_left; rotate_left
              · intro w' hS; go_simp; with_reducible rfl
              · simp only [Act.put, List.setIfInBounds_toArray, List.set_cons_zero, List.set_cons_succ]; rfl
              refine seq_skip (a' := ?_) (some 127) rfl rfl (by rfl) ?_ ?_
              rotate_left
              · simp only [Act.put, List.setIfInBounds_toArray, List.set_cons_zero, List.set_cons_succ]; rfl
              refine seq_skip (a' := ?_) (some 128) rfl rfl (by rfl) ?_ ?_
              rotate_left
              · simp only [Act.put, List.setIfInBounds_toArray, List.set_cons_zero, List.set_cons_succ]; rfl
              refine seq_skip (a' := ?_) (some 129) rfl rfl (by rfl) ?_ ?_
              rotate_left
              · simp only [Act.put, List.setIfInBounds_toArray, List.set_cons_zero, List.set_cons_succ]; rfl
              refine seq_take (v := ?_) (a' := ?_) (some 130) rfl rfl (by rfl) ?_ ?_ ?_
              rotate_left; rotate_left
              · intro w' hS; go_simp; with_reducible rfl
              · simp only [Act.put, List.setIfInBounds_toArray, List.set_cons_zero, List.set_cons_succ]; rfl
              refine seq_take (v := ?_) (a' := ?_) (some 131) rfl rfl (by rfl) ?_ ?_ ?_
              rotate_left; rotate_left
              · intro w' hS; go_simp; with_reducible rfl
              · simp only [Act.put, List.setIfInBounds_toArray, List.set_cons_zero, List.set_cons_succ]; rfl
              refine seq_skip (a' := ?_) (some 132) rfl rfl (by rfl) ?_ ?_
              rotate_left
              · simp only [Act.put, List.setIfInBounds_toArray, List.set_cons_zero, List.set_cons_succ]; rfl
              refine seq_skip (a' := ?_) (some 133) rfl rfl (by rfl) ?_ ?_
              rotate_left
              · simp only [Act.put, List.setIfInBounds_toArray, List.set_cons_zero, List.set_cons_succ]; rfl
              refine seq_skip (a' := ?_) (some 134) rfl rfl (by rfl) ?_ ?_
              rotate_left
              · simp only [Act.put, List.setIfInBounds_toArray, List.set_cons_zero, List.set_cons_succ]; rfl
              refine seq_skip (a' := ?_) (some 135) rfl rfl (by rfl) ?_ ?_
              rotate_left
              · simp only [Act.put, List.setIfInBounds_toArray, List.set_cons_zero, List.set_cons_succ]; rfl
              refine seq_skip (a' := ?_) (some 136) rfl rfl (by rfl) ?_ ?_
              rotate_left
              · simp only [Act.put, List.setIfInBounds_toArray, List.set_cons_zero, List.set_cons_succ]; rfl
              refine seq_skip (a' := ?_) (some 137) rfl rfl (by rfl) ?_ ?_
              rotate_left
              · simp only [Act.put, List.setIfInBounds_toArray, List.set_cons_zero, List.set_cons_succ]; rfl
              refine seq_skip (a' := ?_) (some 138) rfl rfl (by rfl) ?_ ?_
              rotate_left
              · simp only [Act.put, List.setIfInBounds_toArray, List.set_cons_zero, List.set_cons_succ]; rfl
              refine seq_skip (a' := ?_) (some 139) rfl rfl (by rfl) ?_ ?_
              rotate_left
              · simp only [Act.put, List.setIfInBounds_toArray, List.set_cons_zero, List.set_cons_succ]; rfl
              refine seq_skip (a' := ?_) (some 140) rfl rfl (by rfl) ?_ ?_
              rotate_left
              · simp only [Act.put, List.setIfInBounds_toArray, List.set_cons_zero, List.set_cons_succ]; rfl
              refine seq_take (v := ?_) (a' := ?_) (some 141) rfl rfl (by rfl) ?_ ?_ ?_
              rotate_left; rotate_left
              · intro w' hS; go_simp; with_reducible rfl
              · simp only [Act.put, List.setIfInBounds_toArray, List.set_cons_zero, List.set_cons_succ]; rfl
              refine seq_done ?_
              go_wp2_with fail
              go_roundw
              case rel => exact ⟨p + 1, by simp, by omega, hB⟩
              case measure => simp [intOf]; omega
            · obtain rfl : p = ol.length := by omega
              go_wp2_with fail
              go_roundw
              case rel => exact ⟨k + 1, c2, v2, _, _, l2, by simp, by omega, hl2, HGD.out, SQ'.out.read hB, rw_below KQ'.out hB, rw_below IQ'.out hB⟩
              case measure => simp [intOf]; omega
        | drop j h5 hi hj hN hs h2 =>
          rw [hT] at h5
          have t1 : 2 ≤ a.kind % 7 := by omega
          have k5b : decide (a.kind % 7 < 5) = false := by simp; omega
          have k5c : (a.kind % 7 == 5) = true := by simp; omega
          have k6 : a.kind % 7 < 6 := by omega
          rw [hN] at c4 q2 q3
          clear hi hT hdl hs h5
          have hl2 : (setSt l j 2).length ≤ k + 1 := by rw [setSt_length]; omega
          have HJ2 := Lib.hid (show j < (setSt l j 2).length by rw [setSt_length]; exact hj)
          have HR := Lib.hid (show doR l cov (⟨a.kind, a.k, a.s, a.n, (j : Int)⟩ : ActX) = (0, setSt l j 2, cov) from (show (⟨a.kind, a.k, a.s, a.n, (j : Int)⟩ : ActX) = a by rw [← hN]) ▸ HR.out)
          clear hN
          go_wp2_with fail
          refine (do_fs SS.out (by omega) ⟨a.kind, a.k, a.s, a.n, (j : Int)⟩ q0 q1 (0) (setSt l j 2) (cov) HR.out).mono ?_
          rintro e w3 ⟨rfl, v2, S, hk3⟩
          have KQ := Lib.hid (rw_kept KK.out hk3 (SS.out.apart KK.out (by decide) (by decide)))
          have IQ := Lib.hid (rw_kept II.out hk3 (SS.out.apart II.out (by decide) (by decide)))
          have c1 := hk3.cell c1 (fun hx => by have := SS.out.base _ hx; simp at this; omega); have c2' := hk3.cell c2' (fun hx => by have := SS.out.base _ hx; simp at this; omega); have c3 := hk3.cell c3 (fun hx => by have := SS.out.base _ hx; simp at this; omega)
          have SQ := Lib.hid S
          clear S hk3 c0 c4
          obtain ⟨gi, ci, hgi, hi0⟩ : ∃ (gi : Nat) (ci : Nat), _ = Value.slice (some ⟨gi, 0, none⟩) l.length ci ∧ w3.cell? ⟨gi, j, none⟩ = some (.int .i64 ((itemAt l j).st : Int)) := by
            obtain ⟨gi, ci, hgi⟩ := rw_pos IQ.out (by omega)
            have hi := IQ.out
            rw [hgi] at hi
            refine ⟨gi, ci, hgi, ((rw_cells hi).2.2.1 j (by omega)).trans ?_⟩
            rw [stC_getD hj]
          obtain ⟨gk, ck, hgk⟩ := rw_pos KQ.out (by omega)
          cases hgi
          cases hgk
          have hif := (rw_cells IQ.out).2.2.2 j
          have hst2 : (((itemAt l j).st : Int) == 2) = false := by simp; omega
          generalize (itemAt l j).st = st0 at hi0 hst2
          have hjI : (j : Int) < l.length := by omega
          go_upto_region 20 with fail
          go_wp2_with fail
          have hkS : Kept (fun k => k = gi) w3 (w3.setCell ⟨gi, j, none⟩ (.int .i64 2)) := (Kept.refl _ w3).setCell _ _ (.inl rfl)
          have SQ' := Lib.hid (SQ.out.kept hkS (fun q hq e => SQ.out.apart IQ.out (by decide) (by decide) q (by rw [e]; rfl) hq) (fun q hq => by rw [hq]; exact (rw_cells IQ.out).1))
          have KQ' := Lib.hid (rw_kept KQ.out hkS (fun q hq e => rw_ne IQ.out KQ.out (by decide) q hq (by rw [e]; rfl)))
          have IQ' := Lib.hid (rw_set IQ.out j (.int .i64 2))
          obtain ⟨l2, hl2e⟩ : ∃ l2, l2 = setSt l j 2 := ⟨_, rfl⟩
          obtain ⟨c2, rfl⟩ : ∃ c2' : Nat, c2' = cov := ⟨_, rfl⟩
          have EL := Lib.hid (show l.length = l2.length by rw [hl2e, setSt_length])
          have EK := Lib.hid (show keysC l = keysC l2 by rw [hl2e, keysC_set])
          have EI := Lib.hid (show (stC l).set j (.int .i64 2) = stC l2 by rw [hl2e]; exact stC_set (st := 2))
          rw [← hl2e] at SQ' hgd hl2 HJ2
          rw [EL.out, EK.out] at KQ'
          rw [EL.out, EI.out] at IQ'
          clear hl2e SQ KQ IQ hkS hi0 hif hst2
          have SQ := SQ'; have KQ := KQ'; have IQ := IQ'; clear SQ' KQ' IQ'
          have HGD := Lib.hid hgd; clear hgd
          try rw [EL.out]
          have HLEN := Lib.hid (show ∀ ol, openM l2 c2 = ol → ol.length ≤ 1000000 from fun ol h => by have := openM_length l2 c2; rw [h] at this; omega)
          have HL2 := Lib.hid (openP_eq l2 c2)
          go_wp2_with fail
          refine (open_fs SQ.out (by omega) _ rfl).mono ?_
          rintro e w9 ⟨u, rfl, ho, S, hb⟩
          rw [HL2.out] at ho
          have SQ' := Lib.hid S; have KQ' := Lib.hid (rw_below KQ.out hb); have IQ' := Lib.hid (rw_below IQ.out hb)
          clear S SQ KQ IQ hb
          obtain ⟨ol, hol⟩ : ∃ ol, openM l2 c2 = ol := ⟨_, rfl⟩
          have HOS := Lib.hid (show ∀ m ∈ ol, m < l2.length ∧ (itemAt l2 m).st = 0 ∧ stB l2 c2 m = false from fun m hm => openM_spec' (hol ▸ hm))
          rw [hol] at ho
          have HO := Lib.hid hol
          have ho1 : Own w9 0 3 u (ol.map fun i => Value.int .i64 ((i : Nat) : Int)) := own_mono ho (Nat.zero_le _)
          obtain ⟨ao, cap', rfl⟩ := own_form ho1
          have HOWN := Lib.hid ho1
          clear hol ho ho1
          have hmapl : (ol.map fun i => Value.int .i64 ((i : Nat) : Int)).length = ol.length := by simp
          rw [hmapl] at HOWN ⊢
          clear hmapl
          go_wp2_with fail
          have hB := Below.refl w9.heap.size w9
          have hol1 : ol.length ≤ 1000000 := HLEN.out ol HO.out
          go_loopw [12] (fun i wq => ∃ p : Nat, i = .int .i64 p ∧ p ≤ ol.length ∧ Below w9.heap.size w9 wq) (fun i _ => ol.length - (intOf i).toNat)
          case atStart => exact ⟨0, rfl, Nat.zero_le _, hB⟩
          case round =>
            obtain ⟨p, rfl, hp, hB⟩ := hrel
            by_cases hpl : p < ol.length
            · have hpI : (p : Int) < ol.length := by omega
              obtain ⟨g, cp, hg, _, _, hc, _⟩ := own_cells HOWN.out (by simp; omega)
              simp only [List.length_map] at hg
              cases hg
              obtain ⟨m, hm⟩ : ∃ m, ol[p]'hpl = m := ⟨_, rfl⟩
              have hcp : wr.cell? ⟨g, p, none⟩ = some (.int .i64 (m : Int)) := by
                refine cb hB ((hc p (by simpa using hpl)).trans ?_)
                rw [List.getD_eq_getElem?_getD, List.getElem?_map, List.getElem?_eq_getElem hpl, hm]; rfl
              obtain ⟨hm1, hm2, _⟩ := HOS.out m (hm ▸ List.getElem_mem hpl)
              have HMIN := Lib.hid (show m ∈ ol from hm ▸ List.getElem_mem hpl)
              clear hc hm
              have hmI : (m : Int) < l2.length := by omega
              have hmI' : decide ((l2.length : Int) ≤ m) = false := by simp; omega
              obtain ⟨gi, ci, hgi, hi0⟩ : ∃ (gi : Nat) (ci : Nat), _ = Value.slice (some ⟨gi, 0, none⟩) l2.length ci ∧ wr.cell? ⟨gi, m, none⟩ = some (.int .i64 0) := by
                obtain ⟨gi, ci, hgi⟩ := rw_pos IQ'.out (by omega)
                have hi := IQ'.out
                rw [hgi] at hi
                refine ⟨gi, ci, hgi, cb hB (((rw_cells hi).2.2.1 m (by omega)).trans ?_)⟩
                rw [stC_getD hm1, hm2]; rfl
              obtain ⟨gk, ck, hgk⟩ := rw_pos KQ'.out (by omega)
              cases hgi
              cases hgk
              clear hm2
              go_upto_region 29 with fail
              skip
              have hB := hB.drew
              refine region_seq (fun w' => Below w9.heap.size w9 w') [(0, true), (1, true), (2, true), (3, true), (4, true), (5, true), (6, true), (7, true), (8, true), (9, true), (10, true), (11, true), (12, true), (13, true), (14, true), (15, true), (16, true), (17, true), (18, true), (19, true), (20, true), (21, true), (22, true), (23, true), (24, true), (25, true)] (by kernel_rfl) (by kernel_rfl) (fun _ _ _ _ h => h) hB ?_
              try generalize World.drew _ = wS at hB ⊢
              refine seq_take (v := ?_) (a' := ?_) (some 116) rfl rfl (by rfl) ?_ ?_ ?_
              rotate_left; rotate_left
              · intro w' hS; go_simp; with_reducible rfl
              · simp only [Act.put, List.setIfInBounds_toArray, List.set_cons_zero, List.set_cons_succ]; rfl
              refine seq_take (v := ?_) (a' := ?_) (some 117) rfl rfl (by rfl) ?_ ?_ ?_
              rotate_left; rotate_left
              · intro w' hS; go_simp; with_reducible rfl
              · simp only [Act.put, List.setIfInBounds_toArray, List.set_cons_zero, List.set_cons_succ]; rfl
              refine seq_take (v := ?_) (a' := ?_) (some 118) rfl rfl (by rfl) ?_ ?_ ?_
              rotate_left; rotate_left
              · intro w' hS; go_simp; with_reducible rfl
              · simp only [Act.put, List.setIfInBounds_toArray, List.set_cons_zero, List.set_cons_succ]; rfl
              refine seq_take (v := ?_) (a' := ?_) (some 119) rfl rfl (by rfl) ?_ ?_ ?_
              rotate_left; rotate_left
              · intro w' hS; go_simp; with_reducible rfl
              · simp only [Act.put, List.setIfInBounds_toArray, List.set_cons_zero, List.set_cons_succ]; rfl
              refine seq_take (v := ?_) (a' := ?_) (some 120) rfl rfl (by rfl) ?_ ?_ ?_
              rotate_left; rotate_left
              · intro w' hS; go_simp; with_reducible rfl
              · simp only [Act.put, List.setIfInBounds_toArray, List.set_cons_zero, List.set_cons_succ]; rfl
              refine seq_take (v := ?_) (a' := ?_) (some 121) rfl rfl (by rfl) ?_ ?_ ?_
              rotate_left; rotate_left
              · intro w' hS; go_simp; with_reducible rfl
              · simp only [Act.put, List.setIfInBounds_toArray, List.set_cons_zero, List.set_cons_succ]; rfl
              refine seq_take (v := ?_) (a' := ?_) (some 122) rfl rfl (by rfl) ?_ ?_ ?_
              rotate_left; rotate_left
              · intro w' hS; go_simp; with_reducible rfl
              · simp only [Act.put, List.setIfInBounds_toArray, List.set_cons_zero, List.set_cons_succ]; rfl
              refine seq_skip (a' := ?_) (some 123) rfl rfl (by rfl) ?_ ?_
              rotate_left
              · simp only [Act.put, List.setIfInBounds_toArray, List.set_cons_zero, List.set_cons_succ]; rfl
              refine seq_skip (a' := ?_) (some 124) rfl rfl (by rfl) ?_ ?_
              rotate_left
              · simp only [Act.put, List.setIfInBounds_toArray, List.set_cons_zero, List.set_cons_succ]; rfl
              refine seq_take (v := ?_) (a' := ?_) (some 125) rfl rfl (by rfl) ?_ ?_ ?_
              rotate_left; rotate_left
              · intro w' hS; go_simp; with_reducible rfl
              · simp only [Act.put, List.setIfInBounds_toArray, List.set_cons_zero, List.set_cons_succ]; rfl
              refine seq_take (v := ?_) (a' := ?_) (some 126) rfl rfl (by rfl) ?_ ?_ ?_
              rotate_left; rotate_left
              · intro w' hS; go_simp; with_reducible rfl
              · simp only [Act.put, List.setIfInBounds_toArray, List.set_cons_zero, List.set_cons_succ]; rfl
              refine seq_skip (a' := ?_) (some 127) rfl rfl (by rfl) ?_ ?_
              rotate_left
              · simp only [Act.put, List.setIfInBounds_toArray, List.set_cons_zero, List.set_cons_succ]; rfl
              refine seq_skip (a' := ?_) (some 128) rfl rfl (by rfl) ?_ ?_
              rotate_left
              · simp only [Act.put, List.setIfInBounds_toArray, List.set_cons_zero, List.set_cons_succ]; rfl
              refine seq_skip (a' := ?_) (some 129) rfl rfl (by rfl) ?_ ?_
              rotate_left
              · simp only [Act.put, List.setIfInBounds_toArray, List.set_cons_zero, List.set_cons_succ]; rfl
              refine seq_take (v := ?_) (a' := ?_) (some 130) rfl rfl (by rfl) ?_ ?_ ?_
              rotate_left; rotate_left
              · intro w' hS; go_simp; with_reducible rfl
              · simp only [Act.put, List.setIfInBounds_toArray, List.set_cons_zero, List.set_cons_succ]; rfl
              refine seq_take (v := ?_) (a' := ?_) (some 131) rfl rfl (by rfl) ?_ ?_ ?_
              rotate_left; rotate_left
              · intro w' hS; go_simp; with_reducible rfl
              · simp only [Act.put, List.setIfInBounds_toArray, List.set_cons_zero, List.set_cons_succ]; rfl
              refine seq_skip (a' := ?_) (some 132) rfl rfl (by rfl) ?_ ?_
              rotate_left
              · simp only [Act.put, List.setIfInBounds_toArray, List.set_cons_zero, List.set_cons_succ]; rfl
              refine seq_skip (a' := ?_) (some 133) rfl rfl (by rfl) ?_ ?_
              rotate_left
              · simp only [Act.put, List.setIfInBounds_toArray, List.set_cons_zero, List.set_cons_succ]; rfl
              refine seq_skip (a' := ?_) (some 134) rfl rfl (by rfl) ?_ ?_
              rotate_left
              · simp only [Act.put, List.setIfInBounds_toArray, List.set_cons_zero, List.set_cons_succ]; rfl
              refine seq_skip (a' := ?_) (some 135) rfl rfl (by rfl) ?_ ?_
              rotate_left
              · simp only [Act.put, List.setIfInBounds_toArray, List.set_cons_zero, List.set_cons_succ]; rfl
              refine seq_skip (a' := ?_) (some 136) rfl rfl (by rfl) ?_ ?_
              rotate_left
              · simp only [Act.put, List.setIfInBounds_toArray, List.set_cons_zero, List.set_cons_succ]; rfl
              refine seq_skip (a' := ?_) (some 137) rfl rfl (by rfl) ?_ ?_
              rotate_left
              · simp only [Act.put, List.setIfInBounds_toArray, List.set_cons_zero, List.set_cons_succ]; rfl
              refine seq_skip (a' := ?_) (some 138) rfl rfl (by rfl) ?_ ?_
              rotate_left
              · simp only [Act.put, List.setIfInBounds_toArray, List.set_cons_zero, List.set_cons_succ]; rfl
              refine seq_skip (a' := ?_) (some 139) rfl rfl (by rfl) ?_ ?_
              rotate_left
              · simp only [Act.put, List.setIfInBounds_toArray, List.set_cons_zero, List.set_cons_succ]; rfl
              refine seq_skip (a' := ?_) (some 140) rfl rfl (by rfl) ?_ ?_
              rotate_left
              · simp only [Act.put, List.setIfInBounds_toArray, List.set_cons_zero, List.set_cons_succ]; rfl
              refine seq_take (v := ?_) (a' := ?_) (some 141) rfl rfl (by rfl) ?_ ?_ ?_
              rotate_left; rotate_left
              · intro w' hS; go_simp; with_reducible rfl
              · simp only [Act.put, List.setIfInBounds_toArray, List.set_cons_zero, List.set_cons_succ]; rfl
              refine seq_done ?_
              go_wp2_with fail
              go_roundw
              case rel => exact ⟨p + 1, by simp, by omega, hB⟩
              case measure => simp [intOf]; omega
            · obtain rfl : p = ol.length := by omega
              go_wp2_with fail
              go_roundw
              case rel => exact ⟨k + 1, c2, v2, _, _, l2, by simp, by omega, hl2, HGD.out, SQ'.out.read hB, rw_below KQ'.out hB, rw_below IQ'.out hB⟩
              case measure => simp [intOf]; omega
        | tell j h5 h6 hi hj hN h2 hb =>
          rw [hT] at h5 h6
          have t1 : 2 ≤ a.kind % 7 := by unfold isGrow at hi; rw [hT] at hi; simp at hi; omega
          have k5 : a.kind % 7 < 5 := by omega
          have k5c : (a.kind % 7 == 5) = false := by simp; omega
          have k6 : a.kind % 7 < 6 := by omega
          rw [hN] at c4 q2 q3
          have HBT := Lib.hid hb
          clear hi hT hdl hb h5 h6
          have hl2 : (setSt l j 1).length ≤ k + 1 := by rw [setSt_length]; omega
          have HJ2 := Lib.hid (show j < (setSt l j 1).length by rw [setSt_length]; exact hj)
          have HR := Lib.hid (show doR l cov (⟨a.kind, a.k, a.s, a.n, (j : Int)⟩ : ActX) = (0, setSt l j 1, cov) from (show (⟨a.kind, a.k, a.s, a.n, (j : Int)⟩ : ActX) = a by rw [← hN]) ▸ HR.out)
          clear hN
          go_wp2_with fail
          refine (do_fs SS.out (by omega) ⟨a.kind, a.k, a.s, a.n, (j : Int)⟩ q0 q1 (0) (setSt l j 1) (cov) HR.out).mono ?_
          rintro e w3 ⟨rfl, v2, S, hk3⟩
          have KQ := Lib.hid (rw_kept KK.out hk3 (SS.out.apart KK.out (by decide) (by decide)))
          have IQ := Lib.hid (rw_kept II.out hk3 (SS.out.apart II.out (by decide) (by decide)))
          have c1 := hk3.cell c1 (fun hx => by have := SS.out.base _ hx; simp at this; omega); have c2' := hk3.cell c2' (fun hx => by have := SS.out.base _ hx; simp at this; omega); have c3 := hk3.cell c3 (fun hx => by have := SS.out.base _ hx; simp at this; omega)
          have SQ := Lib.hid S
          clear S hk3 c0 c4
          obtain ⟨gi, ci, hgi, hi0⟩ : ∃ (gi : Nat) (ci : Nat), _ = Value.slice (some ⟨gi, 0, none⟩) l.length ci ∧ w3.cell? ⟨gi, j, none⟩ = some (.int .i64 ((itemAt l j).st : Int)) := by
            obtain ⟨gi, ci, hgi⟩ := rw_pos IQ.out (by omega)
            have hi := IQ.out
            rw [hgi] at hi
            refine ⟨gi, ci, hgi, ((rw_cells hi).2.2.1 j (by omega)).trans ?_⟩
            rw [stC_getD hj]
          obtain ⟨gk, ck, hgk⟩ := rw_pos KQ.out (by omega)
          cases hgi
          cases hgk
          have hif := (rw_cells IQ.out).2.2.2 j
          have hst2 : (((itemAt l j).st : Int) == 2) = false := by simp; omega
          generalize (itemAt l j).st = st0 at hi0 hst2
          have hjI : (j : Int) < l.length := by omega
          go_upto_region 21 with fail
          go_wp2_with fail
          have hkS : Kept (fun k => k = gi) w3 (w3.setCell ⟨gi, j, none⟩ (.int .i64 1)) := (Kept.refl _ w3).setCell _ _ (.inl rfl)
          have SQ' := Lib.hid (SQ.out.kept hkS (fun q hq e => SQ.out.apart IQ.out (by decide) (by decide) q (by rw [e]; rfl) hq) (fun q hq => by rw [hq]; exact (rw_cells IQ.out).1))
          have KQ' := Lib.hid (rw_kept KQ.out hkS (fun q hq e => rw_ne IQ.out KQ.out (by decide) q hq (by rw [e]; rfl)))
          have IQ' := Lib.hid (rw_set IQ.out j (.int .i64 1))
          obtain ⟨l2, hl2e⟩ : ∃ l2, l2 = setSt l j 1 := ⟨_, rfl⟩
          obtain ⟨c2, rfl⟩ : ∃ c2' : Nat, c2' = cov := ⟨_, rfl⟩
          have EL := Lib.hid (show l.length = l2.length by rw [hl2e, setSt_length])
          have EK := Lib.hid (show keysC l = keysC l2 by rw [hl2e, keysC_set])
          have EI := Lib.hid (show (stC l).set j (.int .i64 1) = stC l2 by rw [hl2e]; exact stC_set (st := 1))
          have TT := Lib.hid (show ∀ m, m ∈ openM l2 c2 → m < j → sameK (itemAt l2 m) (itemAt l2 j) = false from fun m hm hmj => by rw [hl2e] at hm ⊢; exact turn_tell hj HBT.out hm hmj)
          rw [← hl2e] at SQ' hgd hl2 HJ2
          rw [EL.out, EK.out] at KQ'
          rw [EL.out, EI.out] at IQ'
          clear hl2e SQ KQ IQ hkS hi0 hif hst2
          have SQ := SQ'; have KQ := KQ'; have IQ := IQ'; clear SQ' KQ' IQ'
          have HGD := Lib.hid hgd; clear hgd
          try rw [EL.out]
          have HLEN := Lib.hid (show ∀ ol, openM l2 c2 = ol → ol.length ≤ 1000000 from fun ol h => by have := openM_length l2 c2; rw [h] at this; omega)
          have HL2 := Lib.hid (openP_eq l2 c2)
          go_wp2_with fail
          refine (open_fs SQ.out (by omega) _ rfl).mono ?_
          rintro e w9 ⟨u, rfl, ho, S, hb⟩
          rw [HL2.out] at ho
          have SQ' := Lib.hid S; have KQ' := Lib.hid (rw_below KQ.out hb); have IQ' := Lib.hid (rw_below IQ.out hb)
          clear S SQ KQ IQ hb
          obtain ⟨ol, hol⟩ : ∃ ol, openM l2 c2 = ol := ⟨_, rfl⟩
          have HOS := Lib.hid (show ∀ m ∈ ol, m < l2.length ∧ (itemAt l2 m).st = 0 ∧ stB l2 c2 m = false from fun m hm => openM_spec' (hol ▸ hm))
          rw [hol] at ho
          have HO := Lib.hid hol
          have ho1 : Own w9 0 3 u (ol.map fun i => Value.int .i64 ((i : Nat) : Int)) := own_mono ho (Nat.zero_le _)
          obtain ⟨ao, cap', rfl⟩ := own_form ho1
          have HOWN := Lib.hid ho1
          clear hol ho ho1
          have hmapl : (ol.map fun i => Value.int .i64 ((i : Nat) : Int)).length = ol.length := by simp
          rw [hmapl] at HOWN ⊢
          clear hmapl
          go_wp2_with fail
          have hB := Below.refl w9.heap.size w9
          have hol1 : ol.length ≤ 1000000 := HLEN.out ol HO.out
          go_loopw [12] (fun i wq => ∃ p : Nat, i = .int .i64 p ∧ p ≤ ol.length ∧ Below w9.heap.size w9 wq) (fun i _ => ol.length - (intOf i).toNat)
          case atStart => exact ⟨0, rfl, Nat.zero_le _, hB⟩
          case round =>
            obtain ⟨p, rfl, hp, hB⟩ := hrel
            by_cases hpl : p < ol.length
            · have hpI : (p : Int) < ol.length := by omega
              obtain ⟨g, cp, hg, _, _, hc, _⟩ := own_cells HOWN.out (by simp; omega)
              simp only [List.length_map] at hg
              cases hg
              obtain ⟨m, hm⟩ : ∃ m, ol[p]'hpl = m := ⟨_, rfl⟩
              have hcp : wr.cell? ⟨g, p, none⟩ = some (.int .i64 (m : Int)) := by
                refine cb hB ((hc p (by simpa using hpl)).trans ?_)
                rw [List.getD_eq_getElem?_getD, List.getElem?_map, List.getElem?_eq_getElem hpl, hm]; rfl
              obtain ⟨hm1, hm2, _⟩ := HOS.out m (hm ▸ List.getElem_mem hpl)
              have HMIN := Lib.hid (show m ∈ ol from hm ▸ List.getElem_mem hpl)
              clear hc hm
              have hmI : (m : Int) < l2.length := by omega
              have hmI' : decide ((l2.length : Int) ≤ m) = false := by simp; omega
              obtain ⟨gi, ci, hgi, hi0⟩ : ∃ (gi : Nat) (ci : Nat), _ = Value.slice (some ⟨gi, 0, none⟩) l2.length ci ∧ wr.cell? ⟨gi, m, none⟩ = some (.int .i64 0) := by
                obtain ⟨gi, ci, hgi⟩ := rw_pos IQ'.out (by omega)
                have hi := IQ'.out
                rw [hgi] at hi
                refine ⟨gi, ci, hgi, cb hB (((rw_cells hi).2.2.1 m (by omega)).trans ?_)⟩
                rw [stC_getD hm1, hm2]; rfl
              obtain ⟨gk, ck, hgk⟩ := rw_pos KQ'.out (by omega)
              cases hgi
              cases hgk
              clear hm2
              by_cases hmj : m < j
              · have hmjI : (m : Int) < j := by omega
                have kc := (rw_cells KQ'.out).2.2.1
                have hj2 := HJ2.out
                have k0 := (kc (m * 3) (by omega)).trans (congrArg some (keysC_getD l2 m 0 hm1 (by decide)))
                have k1 := (kc (m * 3 + 1) (by omega)).trans (congrArg some (keysC_getD l2 m 1 hm1 (by decide)))
                have k2 := (kc (m * 3 + 2) (by omega)).trans (congrArg some (keysC_getD l2 m 2 hm1 (by decide)))
                have j0 := (kc (j * 3) (by omega)).trans (congrArg some (keysC_getD l2 j 0 HJ2.out (by decide)))
                have j1 := (kc (j * 3 + 1) (by omega)).trans (congrArg some (keysC_getD l2 j 1 HJ2.out (by decide)))
                have j2 := (kc (j * 3 + 2) (by omega)).trans (congrArg some (keysC_getD l2 j 2 HJ2.out (by decide)))
                have HNE := Lib.hid (TT.out m (HO.out ▸ HMIN.out) hmj)
                generalize itemAt l2 m = x at k0 k1 k2 HNE
                generalize itemAt l2 j = y at j0 j1 j2 HNE
                simp only [List.getD_eq_getElem?_getD, List.getElem?_cons_zero, List.getElem?_cons_succ, Option.getD_some] at k0 k1 k2 j0 j1 j2
                have HS6 := Lib.hid (show same6 x.k x.s x.n y.k y.s y.n = false from HNE.out)
                have hjI2 : (j : Int) < l2.length := by have := HJ2.out; omega
                clear kc
                go_upto_region 29 with fail
                have hB := hB.drew
                refine region_seq (fun w' => Below w9.heap.size w9 w') [(0, true), (1, true), (2, true), (3, true), (4, true), (5, true), (6, true), (7, true), (8, true), (9, true), (10, true), (11, true), (12, true), (13, true), (14, true), (15, true), (16, true), (17, true), (18, true), (19, true), (20, true), (21, true), (22, true), (23, true), (24, true), (25, true)] (by kernel_rfl) (by kernel_rfl) (fun _ _ _ _ h => h) hB ?_
                try generalize World.drew _ = wS at hB ⊢
                refine seq_take (v := ?_) (a' := ?_) (some 116) rfl rfl (by rfl) ?_ ?_ ?_
                rotate_left; rotate_left
                · intro w' hS; go_simp; with_reducible rfl
                · simp only [Act.put, List.setIfInBounds_toArray, List.set_cons_zero, List.set_cons_succ]; rfl
                refine seq_take (v := ?_) (a' := ?_) (some 117) rfl rfl (by rfl) ?_ ?_ ?_
                rotate_left; rotate_left
                · intro w' hS; go_simp; with_reducible rfl
                · simp only [Act.put, List.setIfInBounds_toArray, List.set_cons_zero, List.set_cons_succ]; rfl
                refine seq_take (v := ?_) (a' := ?_) (some 118) rfl rfl (by rfl) ?_ ?_ ?_
                rotate_left; rotate_left
                · intro w' hS; go_simp; with_reducible rfl
                · simp only [Act.put, List.setIfInBounds_toArray, List.set_cons_zero, List.set_cons_succ]; rfl
                refine seq_take (v := ?_) (a' := ?_) (some 119) rfl rfl (by rfl) ?_ ?_ ?_
                rotate_left; rotate_left
                · intro w' hS; go_simp; with_reducible rfl
                · simp only [Act.put, List.setIfInBounds_toArray, List.set_cons_zero, List.set_cons_succ]; rfl
                refine seq_take (v := ?_) (a' := ?_) (some 120) rfl rfl (by rfl) ?_ ?_ ?_
                rotate_left; rotate_left
                · intro w' hS; go_simp; with_reducible rfl
                · simp only [Act.put, List.setIfInBounds_toArray, List.set_cons_zero, List.set_cons_succ]; rfl
                refine seq_take (v := ?_) (a' := ?_) (some 121) rfl rfl (by rfl) ?_ ?_ ?_
                rotate_left; rotate_left
                · intro w' hS; go_simp; with_reducible rfl
                · simp only [Act.put, List.setIfInBounds_toArray, List.set_cons_zero, List.set_cons_succ]; rfl
                refine seq_take (v := ?_) (a' := ?_) (some 122) rfl rfl (by rfl) ?_ ?_ ?_
                rotate_left; rotate_left
                · intro w' hS; go_simp; with_reducible rfl
                · simp only [Act.put, List.setIfInBounds_toArray, List.set_cons_zero, List.set_cons_succ]; rfl
                refine seq_take (v := ?_) (a' := ?_) (some 123) rfl rfl (by rfl) ?_ ?_ ?_
                rotate_left; rotate_left
                · intro w' hS; go_simp; with_reducible rfl
                · simp only [Act.put, List.setIfInBounds_toArray, List.set_cons_zero, List.set_cons_succ]; rfl
                refine seq_take (v := ?_) (a' := ?_) (some 124) rfl rfl (by rfl) ?_ ?_ ?_
                rotate_left; rotate_left
                · intro w' hS; (first | (go_simp; with_reducible rfl) | (go_simp; exact keyIf _ _ _ _ _ _ _))
                · simp only [Act.put, List.setIfInBounds_toArray, List.set_cons_zero, List.set_cons_succ]; rfl
                refine seq_take (v := ?_) (a' := ?_) (some 125) rfl rfl (by rfl) ?_ ?_ ?_
                rotate_left; rotate_left
                · intro w' hS; go_simp; with_reducible rfl
                · simp only [Act.put, List.setIfInBounds_toArray, List.set_cons_zero, List.set_cons_succ]; rfl
                refine seq_take (v := ?_) (a' := ?_) (some 126) rfl rfl (by rfl) ?_ ?_ ?_
                rotate_left; rotate_left
                · intro w' hS; go_simp; with_reducible rfl
                · simp only [Act.put, List.setIfInBounds_toArray, List.set_cons_zero, List.set_cons_succ]; rfl
                refine seq_take (v := ?_) (a' := ?_) (some 127) rfl rfl (by rfl) ?_ ?_ ?_
                rotate_left; rotate_left
                · intro w' hS; go_simp; with_reducible rfl
                · simp only [Act.put, List.setIfInBounds_toArray, List.set_cons_zero, List.set_cons_succ]; rfl
                refine seq_take (v := ?_) (a' := ?_) (some 128) rfl rfl (by rfl) ?_ ?_ ?_
                rotate_left; rotate_left
                · intro w' hS; go_simp; with_reducible rfl
                · simp only [Act.put, List.setIfInBounds_toArray, List.set_cons_zero, List.set_cons_succ]; rfl
                refine seq_take (v := ?_) (a' := ?_) (some 129) rfl rfl (by rfl) ?_ ?_ ?_
                rotate_left; rotate_left
                · intro w' hS; go_simp; with_reducible rfl
                · simp only [Act.put, List.setIfInBounds_toArray, List.set_cons_zero, List.set_cons_succ]; rfl
                refine seq_take (v := ?_) (a' := ?_) (some 130) rfl rfl (by rfl) ?_ ?_ ?_
                rotate_left; rotate_left
                · intro w' hS; go_simp; with_reducible rfl
                · simp only [Act.put, List.setIfInBounds_toArray, List.set_cons_zero, List.set_cons_succ]; rfl
                refine seq_take (v := ?_) (a' := ?_) (some 131) rfl rfl (by rfl) ?_ ?_ ?_
                rotate_left; rotate_left
                · intro w' hS; go_simp; with_reducible rfl
                · simp only [Act.put, List.setIfInBounds_toArray, List.set_cons_zero, List.set_cons_succ]; rfl
                refine seq_take (v := ?_) (a' := ?_) (some 132) rfl rfl (by rfl) ?_ ?_ ?_
                rotate_left; rotate_left
                · intro w' hS; go_simp; with_reducible rfl
                · simp only [Act.put, List.setIfInBounds_toArray, List.set_cons_zero, List.set_cons_succ]; rfl
                refine seq_take (v := ?_) (a' := ?_) (some 133) rfl rfl (by rfl) ?_ ?_ ?_
                rotate_left; rotate_left
                · intro w' hS; go_simp; with_reducible rfl
                · simp only [Act.put, List.setIfInBounds_toArray, List.set_cons_zero, List.set_cons_succ]; rfl
                refine seq_take (v := ?_) (a' := ?_) (some 134) rfl rfl (by rfl) ?_ ?_ ?_
                rotate_left; rotate_left
                · intro w' hS; go_simp; with_reducible rfl
                · simp only [Act.put, List.setIfInBounds_toArray, List.set_cons_zero, List.set_cons_succ]; rfl
                refine seq_take (v := ?_) (a' := ?_) (some 135) rfl rfl (by rfl) ?_ ?_ ?_
                rotate_left; rotate_left
                · intro w' hS; have q0 := cb hS k0; have q1 := cb hS k1; have q2 := cb hS k2; have q3 := cb hS j0; have q4 := cb hS j1; have q5 := cb hS j2; go_simp; with_reducible rfl
                · simp only [Act.put, List.setIfInBounds_toArray, List.set_cons_zero, List.set_cons_succ]; rfl
                refine seq_take (v := ?_) (a' := ?_) (some 136) rfl rfl (by rfl) ?_ ?_ ?_
                rotate_left; rotate_left
                · intro w' hS; go_simp; with_reducible rfl
                · simp only [Act.put, List.setIfInBounds_toArray, List.set_cons_zero, List.set_cons_succ]; rfl
                refine seq_take (v := ?_) (a' := ?_) (some 137) rfl rfl (by rfl) ?_ ?_ ?_
                rotate_left; rotate_left
                · intro w' hS; go_simp; with_reducible rfl
                · simp only [Act.put, List.setIfInBounds_toArray, List.set_cons_zero, List.set_cons_succ]; rfl
                refine seq_take (v := ?_) (a' := ?_) (some 138) rfl rfl (by rfl) ?_ ?_ ?_
                rotate_left; rotate_left
                · intro w' hS; go_simp; with_reducible rfl
                · simp only [Act.put, List.setIfInBounds_toArray, List.set_cons_zero, List.set_cons_succ]; rfl
                refine seq_take (v := ?_) (a' := ?_) (some 139) rfl rfl (by rfl) ?_ ?_ ?_
                rotate_left; rotate_left
                · intro w' hS; have q0 := cb hS k0; have q1 := cb hS k1; have q2 := cb hS k2; have q3 := cb hS j0; have q4 := cb hS j1; have q5 := cb hS j2; go_simp; with_reducible rfl
                · simp only [Act.put, List.setIfInBounds_toArray, List.set_cons_zero, List.set_cons_succ]; rfl
                refine seq_take (v := ?_) (a' := ?_) (some 140) rfl rfl (by rfl) ?_ ?_ ?_
                rotate_left; rotate_left
                · intro w' hS; (first | (go_simp; with_reducible rfl) | (go_simp; exact keyIf _ _ _ _ _ _ _))
                · simp only [Act.put, List.setIfInBounds_toArray, List.set_cons_zero, List.set_cons_succ]; rfl
                refine seq_take (v := ?_) (a' := ?_) (some 141) rfl rfl (by rfl) ?_ ?_ ?_
                rotate_left; rotate_left
                · intro w' hS; go_simp; with_reducible rfl
                · simp only [Act.put, List.setIfInBounds_toArray, List.set_cons_zero, List.set_cons_succ]; rfl
                refine seq_done ?_
                rw [HS6.out]
                go_wp2_with fail
                go_roundw
                case rel => exact ⟨p + 1, by simp, by omega, hB⟩
                case measure => simp [intOf]; omega
              · have hmjI : decide ((m : Int) < j) = false := by simp; omega
                go_upto_region 29 with fail
                have hB := hB.drew
                refine region_seq (fun w' => Below w9.heap.size w9 w') [(0, true), (1, true), (2, true), (3, true), (4, true), (5, true), (6, true), (7, true), (8, true), (9, true), (10, true), (11, true), (12, true), (13, true), (14, true), (15, true), (16, true), (17, true), (18, true), (19, true), (20, true), (21, true), (22, true), (23, true), (24, true), (25, true)] (by kernel_rfl) (by kernel_rfl) (fun _ _ _ _ h => h) hB ?_
                try generalize World.drew _ = wS at hB ⊢
                refine seq_take (v := ?_) (a' := ?_) (some 116) rfl rfl (by rfl) ?_ ?_ ?_
                rotate_left; rotate_left
                · intro w' hS; go_simp; with_reducible rfl
                · simp only [Act.put, List.setIfInBounds_toArray, List.set_cons_zero, List.set_cons_succ]; rfl
                refine seq_take (v := ?_) (a' := ?_) (some 117) rfl rfl (by rfl) ?_ ?_ ?_
                rotate_left; rotate_left
                · intro w' hS; go_simp; with_reducible rfl
                · simp only [Act.put, List.setIfInBounds_toArray, List.set_cons_zero, List.set_cons_succ]; rfl
                refine seq_take (v := ?_) (a' := ?_) (some 118) rfl rfl (by rfl) ?_ ?_ ?_
                rotate_left; rotate_left
                · intro w' hS; go_simp; with_reducible rfl
                · simp only [Act.put, List.setIfInBounds_toArray, List.set_cons_zero, List.set_cons_succ]; rfl
                refine seq_take (v := ?_) (a' := ?_) (some 119) rfl rfl (by rfl) ?_ ?_ ?_
                rotate_left; rotate_left
                · intro w' hS; go_simp; with_reducible rfl
                · simp only [Act.put, List.setIfInBounds_toArray, List.set_cons_zero, List.set_cons_succ]; rfl
                refine seq_take (v := ?_) (a' := ?_) (some 120) rfl rfl (by rfl) ?_ ?_ ?_
                rotate_left; rotate_left
                · intro w' hS; go_simp; with_reducible rfl
                · simp only [Act.put, List.setIfInBounds_toArray, List.set_cons_zero, List.set_cons_succ]; rfl
                refine seq_take (v := ?_) (a' := ?_) (some 121) rfl rfl (by rfl) ?_ ?_ ?_
                rotate_left; rotate_left
                · intro w' hS; go_simp; with_reducible rfl
                · simp only [Act.put, List.setIfInBounds_toArray, List.set_cons_zero, List.set_cons_succ]; rfl
                refine seq_take (v := ?_) (a' := ?_) (some 122) rfl rfl (by rfl) ?_ ?_ ?_
                rotate_left; rotate_left
                · intro w' hS; go_simp; with_reducible rfl
                · simp only [Act.put, List.setIfInBounds_toArray, List.set_cons_zero, List.set_cons_succ]; rfl
                refine seq_take (v := ?_) (a' := ?_) (some 123) rfl rfl (by rfl) ?_ ?_ ?_
                rotate_left; rotate_left
                · intro w' hS; go_simp; with_reducible rfl
                · simp only [Act.put, List.setIfInBounds_toArray, List.set_cons_zero, List.set_cons_succ]; rfl
                refine seq_take (v := ?_) (a' := ?_) (some 124) rfl rfl (by rfl) ?_ ?_ ?_
                rotate_left; rotate_left
                · intro w' hS; go_simp; with_reducible rfl
                · simp only [Act.put, List.setIfInBounds_toArray, List.set_cons_zero, List.set_cons_succ]; rfl
                refine seq_take (v := ?_) (a' := ?_) (some 125) rfl rfl (by rfl) ?_ ?_ ?_
                rotate_left; rotate_left
                · intro w' hS; go_simp; with_reducible rfl
                · simp only [Act.put, List.setIfInBounds_toArray, List.set_cons_zero, List.set_cons_succ]; rfl
                refine seq_take (v := ?_) (a' := ?_) (some 126) rfl rfl (by rfl) ?_ ?_ ?_
                rotate_left; rotate_left
                · intro w' hS; go_simp; with_reducible rfl
                · simp only [Act.put, List.setIfInBounds_toArray, List.set_cons_zero, List.set_cons_succ]; rfl
                refine seq_take (v := ?_) (a' := ?_) (some 127) rfl rfl (by rfl) ?_ ?_ ?_
                rotate_left; rotate_left
                · intro w' hS; go_simp; with_reducible rfl
                · simp only [Act.put, List.setIfInBounds_toArray, List.set_cons_zero, List.set_cons_succ]; rfl
                refine seq_take (v := ?_) (a' := ?_) (some 128) rfl rfl (by rfl) ?_ ?_ ?_
                rotate_left; rotate_left
                · intro w' hS; go_simp; with_reducible rfl
                · simp only [Act.put, List.setIfInBounds_toArray, List.set_cons_zero, List.set_cons_succ]; rfl
                refine seq_take (v := ?_) (a' := ?_) (some 129) rfl rfl (by rfl) ?_ ?_ ?_
                rotate_left; rotate_left
                · intro w' hS; go_simp; with_reducible rfl
                · simp only [Act.put, List.setIfInBounds_toArray, List.set_cons_zero, List.set_cons_succ]; rfl
                refine seq_take (v := ?_) (a' := ?_) (some 130) rfl rfl (by rfl) ?_ ?_ ?_
                rotate_left; rotate_left
                · intro w' hS; go_simp; with_reducible rfl
                · simp only [Act.put, List.setIfInBounds_toArray, List.set_cons_zero, List.set_cons_succ]; rfl
                refine seq_take (v := ?_) (a' := ?_) (some 131) rfl rfl (by rfl) ?_ ?_ ?_
                rotate_left; rotate_left
                · intro w' hS; go_simp; with_reducible rfl
                · simp only [Act.put, List.setIfInBounds_toArray, List.set_cons_zero, List.set_cons_succ]; rfl
                refine seq_skip (a' := ?_) (some 132) rfl rfl (by rfl) ?_ ?_
                rotate_left
                · simp only [Act.put, List.setIfInBounds_toArray, List.set_cons_zero, List.set_cons_succ]; rfl
                refine seq_skip (a' := ?_) (some 133) rfl rfl (by rfl) ?_ ?_
                rotate_left
                · simp only [Act.put, List.setIfInBounds_toArray, List.set_cons_zero, List.set_cons_succ]; rfl
                refine seq_skip (a' := ?_) (some 134) rfl rfl (by rfl) ?_ ?_
                rotate_left
                · simp only [Act.put, List.setIfInBounds_toArray, List.set_cons_zero, List.set_cons_succ]; rfl
                refine seq_skip (a' := ?_) (some 135) rfl rfl (by rfl) ?_ ?_
                rotate_left
                · simp only [Act.put, List.setIfInBounds_toArray, List.set_cons_zero, List.set_cons_succ]; rfl
                refine seq_skip (a' := ?_) (some 136) rfl rfl (by rfl) ?_ ?_
                rotate_left
                · simp only [Act.put, List.setIfInBounds_toArray, List.set_cons_zero, List.set_cons_succ]; rfl
                refine seq_skip (a' := ?_) (some 137) rfl rfl (by rfl) ?_ ?_
                rotate_left
                · simp only [Act.put, List.setIfInBounds_toArray, List.set_cons_zero, List.set_cons_succ]; rfl
                refine seq_skip (a' := ?_) (some 138) rfl rfl (by rfl) ?_ ?_
                rotate_left
                · simp only [Act.put, List.setIfInBounds_toArray, List.set_cons_zero, List.set_cons_succ]; rfl
                refine seq_skip (a' := ?_) (some 139) rfl rfl (by rfl) ?_ ?_
                rotate_left
                · simp only [Act.put, List.setIfInBounds_toArray, List.set_cons_zero, List.set_cons_succ]; rfl
                refine seq_skip (a' := ?_) (some 140) rfl rfl (by rfl) ?_ ?_
                rotate_left
                · simp only [Act.put, List.setIfInBounds_toArray, List.set_cons_zero, List.set_cons_succ]; rfl
                refine seq_take (v := ?_) (a' := ?_) (some 141) rfl rfl (by rfl) ?_ ?_ ?_
                rotate_left; rotate_left
                · intro w' hS; go_simp; with_reducible rfl
                · simp only [Act.put, List.setIfInBounds_toArray, List.set_cons_zero, List.set_cons_succ]; rfl
                refine seq_done ?_
                go_wp2_with fail
                go_roundw
                case rel => exact ⟨p + 1, by simp, by omega, hB⟩
                case measure => simp [intOf]; omega
            · obtain rfl : p = ol.length := by omega
              go_wp2_with fail
              go_roundw
              case rel => exact ⟨k + 1, c2, v2, _, _, l2, by simp, by omega, hl2, HGD.out, SQ'.out.read hB, rw_below KQ'.out hB, rw_below IQ'.out hB⟩
              case measure => simp [intOf]; omega
      · have hkI : (xs.length : Int) ≤ k := by omega
        go_wp2_with (go_at_call 13; refine (alive10_calls _).mono ?_; rintro e w5 ⟨rfl, hb⟩)
        go_ret
        exact ⟨rfl, bl_next SS.out.below hb⟩
theorem feedTurnWalk {W : World} (y : List ActX) (v : Value) (h : (kSlice kAct).K W anyB y [v]) : Calls Try.prog 5 #[v] W fun e W' => e = .returned (.bool true) ∧ Below W.heap.size W W' := by
  obtain ⟨A, c, hv, -, hr⟩ := h
  obtain rfl : v = .slice A y.length c := by simpa using hv
  exact feedTurn_law W A c y (acts_of hr)
end Go.Proofs.Ytdcceaafiammfaa

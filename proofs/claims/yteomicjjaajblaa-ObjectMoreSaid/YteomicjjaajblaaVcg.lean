import Derived.Test.YteomicjjaajblaaVcf
namespace Go.Proofs.Yteomicjjaajblaa
open Go.RowKit Go.Shelf Go.Maps
set_option linter.unusedVariables false
set_option linter.unusedSimpArgs false
/-! ### Resources -/
abbrev Res := List (ByteArray × Int)
def encR (p : ByteArray × Int) : List Value := [.string p.1, .int .i64 p.2]
def resC (l : Res) : List Value := l.flatMap encR
theorem resC_len (l : Res) : (resC l).length = l.length * 2 := by
  induction l with
  | nil => rfl
  | cons p r ih => simp only [resC, List.flatMap_cons, List.length_append, List.length_cons] at ih ⊢; rw [ih]; simp [encR]; omega
theorem resC_get : ∀ (l : Res) (k : Nat) (hk : k < l.length) (j : Nat), j < 2 → (resC l)[k * 2 + j]? = (encR (l[k]'hk))[j]?
  | p :: r, 0, _, j, hj => by
    show (encR p ++ resC r)[0 * 2 + j]? = (encR p)[j]?
    rw [Nat.zero_mul, Nat.zero_add, List.getElem?_append_left (by simp [encR]; exact hj)]
  | p :: r, k + 1, hk, j, hj => by
    show (encR p ++ resC r)[(k + 1) * 2 + j]? = _
    have hl : (encR p).length = 2 := rfl
    rw [List.getElem?_append_right (by rw [hl]; omega), hl, show (k + 1) * 2 + j - 2 = k * 2 + j by omega]
    exact resC_get r k (by simpa using hk) j hj
theorem resC_one (l : Res) : ∀ u ∈ resC l, u.oneCell' = true := by
  intro u hu; unfold resC at hu; obtain ⟨p, _, h⟩ := List.mem_flatMap.1 hu
  simp only [encR, List.mem_cons, List.not_mem_nil, or_false] at h
  rcases h with rfl | rfl <;> rfl
theorem resC_app (l : Res) (p : ByteArray × Int) : resC (l ++ [p]) = resC l ++ [.string p.1, .int .i64 p.2] := by simp [resC, encR]
def in64 (n : Int) : Prop := -9223372036854775808 ≤ n ∧ n ≤ 9223372036854775807
def ResS (w : World) (x : Value) (l : Res) : Prop := SliS w x 2 l.length (resC l) ∧ ∀ p ∈ l, in64 p.2
section
variable {w w' : World} {x : Value} {l : Res}
theorem ResS.form (h : ResS w x l) : ∃ A c, x = .slice A l.length c := h.1.form
theorem ResS.below (h : ResS w x l) (hb : Below w.heap.size w w') : ResS w' x l := ⟨h.1.below hb, h.2⟩
theorem resS_nil (w : World) : ResS w (.slice none 0 0) [] := ⟨sliS_nil w 2, by rintro p ⟨⟩⟩
theorem ResS.at' (h : ResS w x l) {k : Nat} (hk : k < l.length) : ∃ b off c, x = .slice (some ⟨b, off, none⟩) l.length c ∧ w.cell? ⟨b, off + k * 2, none⟩ = some (.string (l[k]'hk).1) ∧ w.cell? ⟨b, off + k * 2 + 1, none⟩ = some (.int .i64 (l[k]'hk).2) ∧ in64 (l[k]'hk).2 := by
  obtain ⟨b, off, c, hx, _, hc⟩ := h.1.at' hk
  refine ⟨b, off, c, hx, hc 0 (by decide) _ (by rw [resC_get l k hk 0 (by decide)]; rfl), hc 1 (by decide) _ (by rw [resC_get l k hk 1 (by decide)]; rfl), h.2 _ (List.getElem_mem hk)⟩
end
theorem foldO_from {q : ByteArray × Int} : ∀ (l : Res) (m : Vec), q ∈ l.foldl stepO m → (∃ r ∈ l, q.1 = r.1) ∨ ∃ r ∈ m, q.1 = r.1
  | [], m, h => .inr ⟨q, h, rfl⟩
  | p :: r, m, h => by
    rcases foldO_from r (stepO m p) h with ⟨x, hx, e⟩ | ⟨x, hx, e⟩
    · exact .inl ⟨x, List.mem_cons_of_mem _ hx, e⟩
    · unfold stepO at hx
      rcases mem_put.1 hx with rfl | hx
      · exact .inl ⟨p, List.mem_cons_self, e⟩
      · exact .inr ⟨x, hx.1, e⟩
theorem foldO_names {l : Res} {q : ByteArray × Int} (h : q ∈ foldO l) : ∃ r ∈ l, q.1 = r.1 := (foldO_from l [] h).elim id (by rintro ⟨r, ⟨⟩, _⟩)
/-- Of: the error, and the vector. -/
def VecOut (w : World) (r : Int × Vec) (e : Ending) (w' : World) : Prop := ∃ x, e = .returned (.tuple #[x, .int .i64 r.1]) ∧ w'.ownsRow w.heap.size 64 3 x r.2.length (vecC r.2) ∧ Below w.heap.size w w'
theorem vecOut_nil {w w' : World} {r : Int × Vec} {c : Int} (h : r = (c, [])) (hb : Below w.heap.size w w') : VecOut w r (.returned (.tuple #[.slice none 0 0, .int .i64 c])) w' := by
  subst h; exact ⟨_, rfl, World.ownsRow_nil _ _ _ _, hb⟩
theorem wide_in {x : Int} (h0 : 0 ≤ x) (h1 : x ≤ 1000 * 9223372036854775807) : wIn x = true := by
  simp only [wIn, Bool.and_eq_true, decide_eq_true_eq]; unfold whi; constructor <;> omega
theorem wres_in {v : Int} (h : wIn v = true) : wideRes v = .tuple #[.agg #[.int .i64 (whi v), .int .u64 (wlo v)], .bool true] := by unfold wideRes; rw [if_pos h]
theorem wres_out {v : Int} (h : wIn v = false) : wideRes v = .tuple #[.agg #[.int .i64 0, .int .u64 0], .bool false] := by unfold wideRes; rw [if_neg (by simp [h])]
set_option maxRecDepth 100000 in
set_option maxHeartbeats 16000000 in
theorem of_calls (w : World) {x : Value} {l : Res} (h : ResS w x l) (hl : l.length ≤ 900) (hs : ∀ p ∈ l, p.1.size ≤ 1000) :
    Calls Try.prog 38 #[x] w (VecOut w (ofR l)) := by
  have hB := Below.refl w.heap.size w
  have H := Lib.hid h
  have HS := Lib.hid hs
  obtain ⟨ax, cx, rfl⟩ := h.form
  clear h hs
  have hmm := @run_makeMap Try.prog
  have HO := Lib.hid (World.ownsMap_made w Try.prog 9 RV)
  go_enter Try.func38, Try.ntmps38
  go_wp2_with fail
  clear hmm
  obtain ⟨mb, hmb⟩ : ∃ mb, mb = w.heap.size := ⟨_, rfl⟩
  have HM0 : Hid (WMap (w.alloc (.map #[] 0)) mb []) := Lib.hid (by rw [hmb]; exact mv_tight HO.out)
  have HB0 := Lib.hid ((Below.refl w.heap.size w).alloc (Nat.le_refl _) (.map #[] 0))
  have HMB := Lib.hid (show w.heap.size ≤ mb by omega)
  rw [← hmb]
  clear HO hB hmb
  go_loopw [10] (fun i wr => ∃ k : Nat, i = .int .i64 k ∧ k ≤ l.length ∧ Hid ((l.take k).any badR = false) ∧ Hid (WMap wr mb (foldO (l.take k))) ∧ Hid (Below w.heap.size w wr)) (fun i _ => l.length - (intOf i).toNat)
  case atStart => exact ⟨0, rfl, Nat.zero_le _, Lib.hid rfl, HM0, HB0⟩
  case round =>
    clear HM0 HB0
    obtain ⟨k, rfl, hk, HA, HM, HB⟩ := hrel
    by_cases hkl : k < l.length
    · have hkI : (k : Int) < l.length := by omega
      obtain ⟨b, o, c, he, q0, q1, hin⟩ := H.out.at' hkl
      cases he
      have q0 := cb HB.out q0; have q1 := cb HB.out q1
      have hsz := HS.out _ (List.getElem_mem hkl)
      have HSTEP := Lib.hid (foldO_succ hkl)
      have HBAD := Lib.hid (show badR (l[k]'hkl) = true → ofR l = (1, []) from fun e => by
        unfold ofR
        have : l.any badR = true := List.any_eq_true.2 ⟨_, List.getElem_mem hkl, e⟩
        rw [this]; rfl)
      have HGOOD := Lib.hid (show badR (l[k]'hkl) = false → (l.take (k + 1)).any badR = false from fun e => by
        rw [List.take_succ_eq_append_getElem hkl, List.any_append, HA.out]; simp [e])
      have HBD := Lib.hid (show ∀ n, 0 ≤ getV (foldO (l.take k)) n ∧ getV (foldO (l.take k)) n ≤ 900 * 9223372036854775807 from fun n => by
        have := foldO_bound (l := l.take k) (fun p hp => by
          have hn : badR p = false := by
            have := HA.out; rw [List.any_eq_false] at this; simpa using this p hp
          unfold badR at hn
          rw [Bool.or_eq_false_iff] at hn
          have h2 := H.out.2 p (List.mem_of_mem_take hp)
          unfold in64 at h2
          have h3 := of_decide_eq_false hn.2
          omega) n
        have hle : (l.take k).length ≤ 900 := by rw [List.length_take]; omega
        exact ⟨this.1, Int.le_trans this.2 (Int.mul_le_mul_of_nonneg_right (by omega) (by decide))⟩)
      have hml : (foldO (l.take k)).length ≤ 900 := by have := foldO_len (l.take k); rw [List.length_take] at this; omega
      obtain ⟨M, hM⟩ : ∃ M, foldO (l.take k) = M := ⟨_, rfl⟩
      rw [hM] at HM HSTEP HBD hml
      obtain ⟨p, hp⟩ : ∃ p, l[k]'hkl = p := ⟨_, rfl⟩
      rw [hp] at q0 q1 hin hsz HSTEP HBAD HGOOD
      clear hp hM
      obtain ⟨V, rfl⟩ : ∃ V : World, V = wr := ⟨_, rfl⟩
      have hVw := HB.out.size
      go_upto_region 5 with fail
      first | with_reducible refine name_wp ?_ | with_reducible refine name_calls ?_
      intro W hWeq
      have g0 : W.heap[V.heap.size]? = some (.cells #[.string p.1, .int .i64 p.2] 43) := by rw [hWeq]; repeat (first | (with_reducible exact blk_newAt _ _ (by simp)) | with_reducible refine blk_drew ?_ | with_reducible refine blk_dN ?_ _ | with_reducible refine blk_old ?_ _)
      have hw : Below V.heap.size V W := by rw [hWeq]; repeat (first | with_reducible exact Below.refl _ _ | with_reducible refine Below.drew ?_ | with_reducible refine bl_dN ?_ _ | with_reducible refine Below.alloc ?_ (by simp <;> omega) _)
      clear hWeq
      have hz : V.heap.size + 1 ≤ W.heap.size := by have := blk_lt g0; omega
      have c0_0 : W.cell? ⟨V.heap.size, 0, none⟩ = some (.string p.1) := blk_cell g0 0
      have c0_1 : W.cell? ⟨V.heap.size, 1, none⟩ = some (.int .i64 p.2) := blk_cell g0 1
      have f0 : ∀ j, W.frozen? ⟨V.heap.size, j, none⟩ = false := blk_free g0
      have hB : Below W.heap.size W W := Below.refl _ _
      have G0 := Lib.hid g0; clear g0
      have F0 := Lib.hid f0; clear f0
      have Hw := Lib.hid hw; clear hw
      have HMW := Lib.hid (HM.out.below Hw.out)
      have HBW := Lib.hid (HB.out.trans (Hw.out.mono hVw))
      clear q0 q1
      by_cases hrt : rightB p.1 = true
      · by_cases hz : p.2 < 0
        · have HE := Lib.hid (HBAD.out (by unfold badR; rw [hrt]; simpa using hz))
          go_wp2_with (go_at_call 42; refine (right_calls _ _ (by omega)).mono ?_; rintro e w' ⟨rfl, hb⟩; rw [hrt]; have hB := bl_next hB hb; have k0 := cb hB c0_0; have k1 := cb hB c0_1; clear hb)
          go_ret2
          exact vecOut_nil HE.out (HBW.out.trans (hB.mono (Nat.le_trans hVw Hw.out.size)))
        · have hzI : 0 ≤ p.2 := by omega
          have HG := Lib.hid (HGOOD.out (by unfold badR; rw [hrt]; simpa using hzI))
          have hbd := HBD.out p.1
          unfold in64 at hin
          have HIN := Lib.hid (show wIn (getV M p.1 + p.2) = true from wide_in (by omega) (by omega))
          have HIN1 := Lib.hid (show wIn (getV M p.1) = true from wide_in (by omega) (by omega))
          have HIN2 := Lib.hid (show wIn p.2 = true from wide_in (by omega) (by omega))
          obtain ⟨hin1, hin2⟩ := hin
          go_upto_region 7 with (go_at_call 42; refine (right_calls _ _ (by omega)).mono ?_; rintro e w' ⟨rfl, hb⟩; rw [hrt]; have hB := bl_next hB hb; have k0 := cb hB c0_0; have k1 := cb hB c0_1; clear hb)
          obtain ⟨V2, rfl⟩ : ∃ V2 : World, V2 = w' := ⟨_, rfl⟩
          have HM2 := Lib.hid (HMW.out.below hB)
          have HLK := Lib.hid (fun w' (hS : Below V2.heap.size V2 w') => wmap_look (HM2.out.below hS) (s := p.1) (by omega))
          have HB2 := Lib.hid (HBW.out.trans (hB.mono (Nat.le_trans hVw Hw.out.size)))
          have hVw2 := HB2.out.size
          clear hB
          have hB := Below.refl V2.heap.size V2
          have hB := hB.drew
          refine region_seqM (fun w' => Below V2.heap.size V2 w') 14 [(0, 1), (1, 1), (2, 1), (3, 1), (4, 1), (5, 1), (6, 1), (7, 1), (8, 1), (9, 0), (10, 0), (11, 1), (12, 1), (13, 2), (14, 0)] (by kernel_rfl) (by kernel_rfl) (fun _ _ _ _ h => h) hB ?_
          try generalize World.drew _ = wS at hB ⊢
          refine sm_take (v := ?_) (a' := ?_) (some 24) rfl rfl (by rfl) ?_ ?_ ?_
          rotate_left; rotate_left
          · intro w' hS; go_simp; with_reducible rfl
          · simp only [Act.put, List.setIfInBounds_toArray, List.set_cons_zero, List.set_cons_succ]; rfl
          refine sm_take (v := ?_) (a' := ?_) (some 25) rfl rfl (by rfl) ?_ ?_ ?_
          rotate_left; rotate_left
          · intro w' hS; go_simp; with_reducible rfl
          · simp only [Act.put, List.setIfInBounds_toArray, List.set_cons_zero, List.set_cons_succ]; rfl
          refine sm_take (v := ?_) (a' := ?_) (some 26) rfl rfl (by rfl) ?_ ?_ ?_
          rotate_left; rotate_left
          · intro w' hS; have p0 := cb hS k0; have p1 := cb hS k1; have p2 := HLK.out _ hS; go_simp; with_reducible rfl
          · simp only [Act.put, List.setIfInBounds_toArray, List.set_cons_zero, List.set_cons_succ]; rfl
          refine sm_take (v := ?_) (a' := ?_) (some 27) rfl rfl (by rfl) ?_ ?_ ?_
          rotate_left; rotate_left
          · intro w' hS; go_simp; with_reducible rfl
          · simp only [Act.put, List.setIfInBounds_toArray, List.set_cons_zero, List.set_cons_succ]; rfl
          refine sm_take (v := ?_) (a' := ?_) (some 28) rfl rfl (by rfl) ?_ ?_ ?_
          rotate_left; rotate_left
          · intro w' hS; go_simp; with_reducible rfl
          · simp only [Act.put, List.setIfInBounds_toArray, List.set_cons_zero, List.set_cons_succ]; rfl
          refine sm_take (v := ?_) (a' := ?_) (some 29) rfl rfl (by rfl) ?_ ?_ ?_
          rotate_left; rotate_left
          · intro w' hS; have p0 := cb hS k0; have p1 := cb hS k1; have p2 := HLK.out _ hS; go_simp; with_reducible rfl
          · simp only [Act.put, List.setIfInBounds_toArray, List.set_cons_zero, List.set_cons_succ]; rfl
          refine sm_take (v := ?_) (a' := ?_) (some 30) rfl rfl (by rfl) ?_ ?_ ?_
          rotate_left; rotate_left
          · intro w' hS; have p0 := cb hS k0; have p1 := cb hS k1; have p2 := HLK.out _ hS; go_simp; with_reducible rfl
          · simp only [Act.put, List.setIfInBounds_toArray, List.set_cons_zero, List.set_cons_succ]; rfl
          refine sm_take (v := ?_) (a' := ?_) (some 31) rfl rfl (by rfl) ?_ ?_ ?_
          rotate_left; rotate_left
          · intro w' hS; go_simp; with_reducible rfl
          · simp only [Act.put, List.setIfInBounds_toArray, List.set_cons_zero, List.set_cons_succ]; rfl
          refine sm_take (v := ?_) (a' := ?_) (some 32) rfl rfl (by rfl) ?_ ?_ ?_
          rotate_left; rotate_left
          · intro w' hS; have p0 := cb hS k0; have p1 := cb hS k1; have p2 := HLK.out _ hS; go_simp; with_reducible rfl
          · simp only [Act.put, List.setIfInBounds_toArray, List.set_cons_zero, List.set_cons_succ]; rfl
          refine sm_call (args := ?_) Try.func62 (by kernel_rfl) rfl (some 33) rfl rfl (by rfl) rfl rfl ?_ ?_
          rotate_left
          · simp only [List.map_toArray, List.map_cons, List.map_nil]; go_simp; rfl
          with_reducible refine (wof_calls _ _ (by omega) (by omega)).mono ?_
          rintro e w' ⟨rfl, hb⟩
          unfold wideV
          refine ⟨_, rfl, .inr (bl_next (by repeat (first | with_reducible exact hB | refine Below.alloc ?_ (by have := hB.size; simp; omega) _ | refine bl_dN ?_ _ | refine Below.drew ?_ | refine Below.setCell ?_ (by have := hB.size; simp; omega) _)) hb), ?_⟩
          have hB := bl_next (by repeat (first | with_reducible exact hB | refine Below.alloc ?_ (by have := hB.size; simp; omega) _ | refine bl_dN ?_ _ | refine Below.drew ?_ | refine Below.setCell ?_ (by have := hB.size; simp; omega) _)) hb; clear hb
          simp only [Act.put, List.setIfInBounds_toArray, List.set_cons_zero, List.set_cons_succ]
          refine sm_call (args := ?_) Try.func61 (by kernel_rfl) rfl (some 34) rfl rfl (by rfl) rfl rfl ?_ ?_
          rotate_left
          · simp only [List.map_toArray, List.map_cons, List.map_nil]; go_simp; rfl
          with_reducible refine (wadd_calls _ _ _ _ _ (WOk.of_in HIN1.out) (WOk.of_in HIN2.out)).mono ?_
          rintro e w' ⟨rfl, hb⟩
          rw [wval_of, wval_of, wres_in HIN.out]
          refine ⟨_, rfl, .inr (bl_next (by repeat (first | with_reducible exact hB | refine Below.alloc ?_ (by have := hB.size; simp; omega) _ | refine bl_dN ?_ _ | refine Below.drew ?_ | refine Below.setCell ?_ (by have := hB.size; simp; omega) _)) hb), ?_⟩
          have hB := bl_next (by repeat (first | with_reducible exact hB | refine Below.alloc ?_ (by have := hB.size; simp; omega) _ | refine bl_dN ?_ _ | refine Below.drew ?_ | refine Below.setCell ?_ (by have := hB.size; simp; omega) _)) hb; clear hb
          simp only [Act.put, List.setIfInBounds_toArray, List.set_cons_zero, List.set_cons_succ]
          refine sm_take (v := ?_) (a' := ?_) (some 23) rfl rfl (by rfl) ?_ ?_ ?_
          rotate_left; rotate_left
          · intro w' hS; go_simp; with_reducible rfl
          · simp only [Act.put, List.setIfInBounds_toArray, List.set_cons_zero, List.set_cons_succ]; rfl
          refine sm_take (v := ?_) (a' := ?_) (some 35) rfl rfl (by rfl) ?_ ?_ ?_
          rotate_left; rotate_left
          · intro w' hS; go_simp; with_reducible rfl
          · simp only [Act.put, List.setIfInBounds_toArray, List.set_cons_zero, List.set_cons_succ]; rfl
          refine sm_free (v := ?_) (a' := ?_) (some 36) rfl rfl (by rfl) ?_ ?_ ?_
          rotate_left; rotate_left
          · intro w'; go_simp; with_reducible rfl
          · simp only [Act.put, List.setIfInBounds_toArray, List.set_cons_zero, List.set_cons_succ]; rfl
          refine sm_law rfl (by rfl) ?_
          refine wp_mapUpd _ (.tmp 24) (.tmp 26) (.tmp 35) 83 rfl 9 40 kB_keyed Try.underlying83 mb M.length (dmA kB wideV M) rfl (HM2.out.below hB) (by unfold maxLen; omega) (.string p.1) (wideV (getV M p.1 + p.2)) (kB p.1) rfl rfl (kB_key (by unfold maxLen; omega)) ?_
          intro w3 hown3 hgrow3
          refine ⟨.inl rfl, ?_⟩
          simp only [Act.put, List.setIfInBounds_toArray, List.set_cons_zero, List.set_cons_succ]
          refine sm_done ?_
          have HM3 := Lib.hid (wmap_put hown3)
          have h9 := HB2.out.trans (hB.mono hVw2)
          have HB3 := Lib.hid (h9.grown hgrow3 h9.size (fun k e => by cases e; exact HMB.out))
          clear hown3 hgrow3 h9 hB
          go_wp2_with fail
          go_roundw
          case rel => exact ⟨k + 1, by simp, by omega, HG, by rw [HSTEP.out]; exact HM3, HB3⟩
          case measure => simp [intOf]; omega
      · have hrf : rightB p.1 = false := by simpa using hrt
        have HE := Lib.hid (HBAD.out (by unfold badR; rw [hrf]; rfl))
        clear hrt
        go_wp2_with (go_at_call 42; refine (right_calls _ _ (by omega)).mono ?_; rintro e w' ⟨rfl, hb⟩; rw [hrf]; have hB := bl_next hB hb; have k0 := cb hB c0_0; have k1 := cb hB c0_1; clear hb)
        go_ret2
        exact vecOut_nil HE.out (HBW.out.trans (hB.mono (Nat.le_trans hVw Hw.out.size)))
    · obtain rfl : k = l.length := by omega
      have hA := HA.out; have hM := HM.out
      rw [List.take_length] at hA hM
      have hml : (foldO l).length ≤ 900 := by have := foldO_len l; omega
      have HA := Lib.hid hA; have HM := Lib.hid hM
      clear hA hM
      by_cases h16 : 16 < l.length
      · have h16I : (16 : Int) < l.length := by omega
        have HE := Lib.hid (show ofR l = (3, []) by unfold ofR; rw [HA.out, if_neg (by simp), if_pos h16])
        go_wp2_with fail
        go_ret2
        exact vecOut_nil HE.out HB.out
      · have h16I : (l.length : Int) ≤ 16 := by omega
        have HE := Lib.hid (show ofR l = (0, someV (foldO l)) by unfold ofR; rw [HA.out, if_neg (by simp), if_neg h16])
        have HN := Lib.hid (show ∀ q ∈ foldO l, q.1.size ≤ 1000 from fun q hq => by
          obtain ⟨r, hr, e⟩ := foldO_names hq
          rw [e]; exact HS.out r hr)
        go_wp2_with fail
        refine (made_calls _ HM.out (foldO_rise l) HN.out (by omega)).mono ?_
        rintro e w4 ⟨y, rfl, hrow, hb⟩
        obtain ⟨ay, cy, rfl⟩ := rw_form hrow
        go_wp2_with fail
        go_ret2
        rw [HE.out]
        exact ⟨_, rfl, rw_mono hrow HB.out.size, HB.out.trans (hb.mono HB.out.size)⟩
end Go.Proofs.Yteomicjjaajblaa

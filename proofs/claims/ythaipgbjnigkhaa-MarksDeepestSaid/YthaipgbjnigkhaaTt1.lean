import Derived.Test.YthaipgbjnigkhaaTrh
import Derived.Test.YthaipgbjnigkhaaSeqL
namespace Go.Proofs.Ythaipgbjnigkhaa
open Go.RowKit Go.Shelf Go.Maps
set_option linter.unusedVariables false
set_option linter.unusedSimpArgs false
set_option linter.unusedSectionVars false
/-! ### The reference's tree: a row of nodes -/
def nodesC (N : Nodes) : List Value := N.flatMap fun p => [.string p.1, .string p.2]
theorem nodesC_length (N : Nodes) : (nodesC N).length = N.length * 2 := by
  induction N with
  | nil => rfl
  | cons a r ih => simp only [nodesC, List.flatMap_cons, List.length_append, List.length_cons] at ih ⊢; rw [ih]; simp; omega
theorem nodesC_getD : ∀ (N : Nodes) (i j : Nat) (hi : i < N.length) (hj : j < 2), (nodesC N).getD (i * 2 + j) undef = [Value.string (N[i]'hi).1, .string (N[i]'hi).2].getD j undef
  | a :: r, 0, j, _, hj => by
    simp only [nodesC, List.flatMap_cons, Nat.zero_mul, Nat.zero_add, List.getD_eq_getElem?_getD]
    rw [List.getElem?_append_left (by simpa using hj)]
    rfl
  | a :: r, i + 1, j, hi, hj => by
    have h := nodesC_getD r i j (by simpa using hi) hj
    simp only [nodesC, List.flatMap_cons, List.getD_eq_getElem?_getD] at h ⊢
    rw [List.getElem?_append_right (by simp; omega)]
    simp only [List.getElem_cons_succ]
    rw [← h]
    congr 2; simp; omega
theorem nodesC_app (N : Nodes) (p : ByteArray × ByteArray) : nodesC N ++ [.string p.1, .string p.2] = nodesC (N ++ [p]) := by simp [nodesC]
structure RefT (w : World) (base rp : Nat) (v : Value) (N : Nodes) : Prop where
  box : w.heap[rp]? = some (.cells #[v] 91)
  row : w.ownsRow base 88 2 v N.length (nodesC N)
  bas : base ≤ rp
def refTX (rp : Nat) (v : Value) : Nat → Prop := fun k => k = rp ∨ v.ownBlock = some k
section
variable {w w' : World} {base rp : Nat} {v : Value} {N : Nodes}
theorem RefT.kept {X : Nat → Prop} (h : RefT w base rp v N) (hk : Kept X w w') (hx : ∀ k, refTX rp v k → ¬ X k) : RefT w' base rp v N :=
  ⟨hk.heap h.box (hx _ (.inl rfl)), rw_kept h.row hk (fun k q => hx _ (.inr q)), h.bas⟩
theorem RefT.below (h : RefT w base rp v N) (hb : Below w.heap.size w w') : RefT w' base rp v N := h.kept (kept_of_below (X := fun _ => False) hb) (fun _ _ q => q)
theorem RefT.ge (h : RefT w base rp v N) : ∀ k, refTX rp v k → base ≤ k := by
  rintro k (rfl | q)
  · exact h.bas
  · exact (rw_type h.row q).1
theorem RefT.form (h : RefT w base rp v N) : ∃ ao cap, v = .slice ao N.length cap := rw_form h.row
theorem RefT.at' (h : RefT w base rp v N) {i : Nat} (hi : i < N.length) : ∃ g cap, v = .slice (some ⟨g, 0, none⟩) N.length cap ∧ w.cell? ⟨g, i * 2, none⟩ = some (.string (N[i]'hi).1) ∧ w.cell? ⟨g, i * 2 + 1, none⟩ = some (.string (N[i]'hi).2) := by
  obtain ⟨g, cap, hv⟩ := rw_pos h.row (by omega)
  have hr := h.row
  rw [hv] at hr
  have hc := (rw_cells hr).2.2.1
  refine ⟨g, cap, hv, ?_, ?_⟩
  · rw [hc _ (by omega), show i * 2 = i * 2 + 0 by omega, nodesC_getD N i 0 hi (by decide)]; rfl
  · rw [hc _ (by omega), nodesC_getD N i 1 hi (by decide)]; rfl
end
def noneTo (N : Nodes) (s : ByteArray) (k : Nat) : Prop := ∀ j (h : j < N.length), j < k → (N[j]'h).1 ≠ s
theorem noneTo_has {N : Nodes} {s : ByteArray} (h : noneTo N s N.length) : hasN N s = false := by
  unfold hasN
  rw [List.any_eq_false]
  intro q hq
  obtain ⟨j, hj, rfl⟩ := List.getElem_of_mem hq
  simpa using h j hj hj
theorem noneTo_succ {N : Nodes} {s : ByteArray} {k : Nat} (h : noneTo N s k) (hk : k < N.length) (hs : (N[k]'hk).1 ≠ s) : noneTo N s (k + 1) := fun j hj hjk => by
  rcases Nat.lt_or_ge j k with q | q
  · exact h j hj q
  · obtain rfl : j = k := by omega
    exact hs
section
variable {base rp : Nat} {v : Value} {N : Nodes}
set_option maxRecDepth 100000 in
set_option maxHeartbeats 4000000 in
theorem rhasT_calls (w : World) (h : RefT w base rp v N) (s : ByteArray) (hl : N.length ≤ 1000000) :
    Calls Try.prog 26 #[.pointer (some ⟨rp, 0, none⟩), .string s] w fun e w' => e = .returned (.bool (hasN N s)) ∧ Below w.heap.size w w' := by
  have hB := Below.refl w.heap.size w
  have H := Lib.hid h
  obtain ⟨ao, cap, rfl⟩ := h.form
  have c0 := blk_cell h.box 0
  have C0 := Lib.hid c0
  clear h
  go_enter Try.func26, Try.ntmps26
  go_wp2
  clear c0
  go_loopw [5] (fun i wr => ∃ k : Nat, i = .int .i64 k ∧ k ≤ N.length ∧ Hid (noneTo N s k) ∧ Below w.heap.size w wr) (fun i _ => N.length - (intOf i).toNat)
  case atStart => exact ⟨0, rfl, Nat.zero_le _, Lib.hid (fun j h q => absurd q (Nat.not_lt_zero _)), hB⟩
  case round =>
    clear hB
    obtain ⟨k, rfl, hk, HT, hB⟩ := hrel
    have c0 := cb hB C0.out
    by_cases hkl : k < N.length
    · have hkI : (k : Int) < N.length := by omega
      obtain ⟨g, c', he, c1, c2⟩ := (H.out.below hB).at' hkl
      cases he
      obtain ⟨x, hx⟩ : ∃ x, N[k]'hkl = x := ⟨_, rfl⟩
      rw [hx] at c1 c2
      have HX := Lib.hid hx
      clear hx
      by_cases hxy : x.1 = s
      · have hbf : (x.1.toList == s.toList) = true := by rw [beq_str]; simpa using hxy
        have hbn : x.1.toList = s.toList := by rw [hxy]
        have HXY := Lib.hid hxy
        clear hxy
        go_wp2
        go_ret
        refine ⟨ret_bool (Eq.symm ?_), hB⟩
        exact hasN_iff.2 ⟨x.2, by rw [← HXY.out]; exact HX.out ▸ List.getElem_mem hkl⟩
      · have hbf := beqF hxy
        have hbn := neF hxy
        have HXY := Lib.hid hxy
        clear hxy
        go_wp2
        go_roundw
        case rel => exact ⟨k + 1, by simp, by omega, Lib.hid (noneTo_succ HT.out hkl (by rw [HX.out]; exact HXY.out)), hB⟩
        case measure => simp [intOf]; omega
    · obtain rfl : k = N.length := by omega
      go_wp2
      go_ret
      exact ⟨ret_bool (noneTo_has HT.out).symm, hB⟩
set_option maxRecDepth 100000 in
set_option maxHeartbeats 4000000 in
theorem rparT_calls (w : World) (h : RefT w base rp v N) (hR : Rising N) (s : ByteArray) (hl : N.length ≤ 1000000) :
    Calls Try.prog 28 #[.pointer (some ⟨rp, 0, none⟩), .string s] w fun e w' => e = .returned (.string (parN N s)) ∧ Below w.heap.size w w' := by
  have hB := Below.refl w.heap.size w
  have H := Lib.hid h
  obtain ⟨ao, cap, rfl⟩ := h.form
  have c0 := blk_cell h.box 0
  have C0 := Lib.hid c0
  clear h
  go_enter Try.func28, Try.ntmps28
  go_wp2
  clear c0
  go_loopw [5] (fun i wr => ∃ k : Nat, i = .int .i64 k ∧ k ≤ N.length ∧ Hid (noneTo N s k) ∧ Below w.heap.size w wr) (fun i _ => N.length - (intOf i).toNat)
  case atStart => exact ⟨0, rfl, Nat.zero_le _, Lib.hid (fun j h q => absurd q (Nat.not_lt_zero _)), hB⟩
  case round =>
    clear hB
    obtain ⟨k, rfl, hk, HT, hB⟩ := hrel
    have c0 := cb hB C0.out
    by_cases hkl : k < N.length
    · have hkI : (k : Int) < N.length := by omega
      obtain ⟨g, c', he, c1, c2⟩ := (H.out.below hB).at' hkl
      cases he
      obtain ⟨x, hx⟩ : ∃ x, N[k]'hkl = x := ⟨_, rfl⟩
      rw [hx] at c1 c2
      have HX := Lib.hid hx
      clear hx
      by_cases hxy : x.1 = s
      · have hbf : (x.1.toList == s.toList) = true := by rw [beq_str]; simpa using hxy
        have hbn : x.1.toList = s.toList := by rw [hxy]
        have HXY := Lib.hid hxy
        clear hxy
        go_wp2
        go_ret
        refine ⟨?_, hB⟩
        rw [parN_some (p := x.2) hR (by rw [← HXY.out]; exact HX.out ▸ List.getElem_mem hkl)]
        first | rfl | (simp; done) | (go_simp; done)
      · have hbf := beqF hxy
        have hbn := neF hxy
        have HXY := Lib.hid hxy
        clear hxy
        go_wp2
        go_roundw
        case rel => exact ⟨k + 1, by simp, by omega, Lib.hid (noneTo_succ HT.out hkl (by rw [HX.out]; exact HXY.out)), hB⟩
        case measure => simp [intOf]; omega
    · obtain rfl : k = N.length := by omega
      go_wp2
      go_ret
      refine ⟨?_, hB⟩
      rw [parN_none (noneTo_has HT.out)]
      first | rfl | (simp; done) | (go_simp; done)
end
end Go.Proofs.Ythaipgbjnigkhaa
namespace Go.Proofs.Ythaipgbjnigkhaa
open Go.RowKit Go.Shelf Go.Maps
set_option linter.unusedVariables false
set_option linter.unusedSimpArgs false
set_option linter.unusedSectionVars false
theorem rootF {x : ByteArray} (h : ¬ x = rootB) : (x.toList == [114, 111, 111, 116]) = false ∧ ¬ x.toList = [114, 111, 111, 116] := by
  have h1 := beqF h; have h2 := neF h
  rw [root_list] at h1 h2
  exact ⟨h1, h2⟩
def chTo (N : Nodes) (s : ByteArray) (k : Nat) : List ByteArray := ((N.take k).filter fun p => !decide (p.1 = rootB) && decide (p.2 = s)).map (·.1)
theorem chTo_succ (N : Nodes) (s : ByteArray) (k : Nat) (h : k < N.length) : chTo N s (k + 1) = if (!decide ((N[k]'h).1 = rootB) && decide ((N[k]'h).2 = s)) then chTo N s k ++ [(N[k]'h).1] else chTo N s k := by
  unfold chTo
  rw [List.take_succ_eq_append_getElem h, List.filter_append, List.map_append]
  cases q : (!decide ((N[k]'h).1 = rootB) && decide ((N[k]'h).2 = s)) <;> simp [q]
theorem chTo_all (N : Nodes) (s : ByteArray) : chTo N s N.length = childN N s := by unfold chTo childN; rw [List.take_length]
theorem chTo_len (N : Nodes) (s : ByteArray) (k : Nat) : (chTo N s k).length ≤ k := by
  unfold chTo; rw [List.length_map]; exact Nat.le_trans (List.length_filter_le _ _) (by rw [List.length_take]; exact Nat.min_le_left _ _)
theorem allN_at {N : Nodes} {k : Nat} (h : k < N.length) : (allN N)[k]'(by simpa [allN] using h) = (N[k]'h).1 := by simp [allN]
section
variable {base rp : Nat} {v : Value} {N : Nodes}
set_option maxRecDepth 100000 in
set_option maxHeartbeats 4000000 in
theorem rpathT_calls (w : World) (h : RefT w base rp v N) (hR : Rising N) (hd : ∀ s, (pathT N s).length < 19) (s : ByteArray) (hl : N.length ≤ 1000000) :
    Calls Try.prog 20 #[.pointer (some ⟨rp, 0, none⟩), .string s] w fun e w' => ∃ u, e = .returned u ∧ w'.ownsRow w.heap.size 9 1 u (pathT N s).length (strC (pathT N s)) ∧ Below w.heap.size w w' := by
  have hB := Below.refl w.heap.size w
  have H := Lib.hid h
  have HD := Lib.hid hd
  clear h hd
  go_enter Try.func20, Try.ntmps20
  go_wp2_with fail
  go_loopw [5, 6] (fun s5 s6 wr => ∃ (u : Value) (l : List ByteArray) (y : ByteArray), (s5 = u ∧ s6 = .string y) ∧ Hid (l ++ pathT N y = pathT N s) ∧ Hid (wr.ownsRow w.heap.size 9 1 u l.length (strC l)) ∧ Below w.heap.size w wr) (fun _ s6 _ => lenS N s6)
  case atStart => exact ⟨_, [], s, ⟨rfl, rfl⟩, Lib.hid rfl, Lib.hid (World.ownsRow_nil _ _ _ _), hB⟩
  case round =>
    clear hB
    obtain ⟨u, l, y, ⟨rfl, rfl⟩, HE, HROW, hB⟩ := hrel
    have hll : l.length ≤ 19 := by
      have h1 := congrArg List.length HE.out
      rw [List.length_append] at h1
      have h2 := HD.out s
      omega
    cases hy : hasN N y with
    | false =>
      have HH := Lib.hid hy
      have HF := Lib.hid (show l = pathT N s by rw [← HE.out, show pathT N y = [] from pathN_head hy, List.append_nil])
      clear hy HE
      go_wp2_with (go_at_call 26; refine (rhasT_calls _ (H.out.below hB) y hl).mono ?_; rintro e w' ⟨rfl, hb⟩; rw [HH.out]; have hB2 := bl_next hB hb; have HROW2 := Lib.hid (rw_below HROW.out hb); clear hb)
      go_ret
      exact ⟨_, rfl, by rw [← HF.out]; exact HROW2.out, hB2⟩
    | true =>
      have HH := Lib.hid hy
      have hp := pathT_of HD.out y
      rw [if_pos hy] at hp
      have HP := Lib.hid hp
      clear hy hp
      go_wp2_with fail
      refine (rhasT_calls _ (H.out.below hB) y hl).mono ?_
      rintro e w2 ⟨rfl, hb⟩
      rw [HH.out]
      have hB2 := bl_next hB hb
      have HROW2 := Lib.hid (rw_below HROW.out hb)
      have hbz := hB2.size
      clear hb HROW hB
      go_wp2_with (at_builtin; refine app_str rfl (.tmp 11) (.tmp 13) rfl w.heap.size 9 _ l y rfl HROW2.out 1 rfl hbz (by omega) ?_; intro g2 cap2 w5 hown hk4 hat; have HR3 := Lib.hid hown; have hB3 : Below w.heap.size w w5 := hB2.trans (hk4.below hB2.size (fun q hq => (rw_type HROW2.out hq).1)); clear hown hk4 hat HROW2 hB2 hbz)
      refine (rparT_calls _ (H.out.below hB3) hR y hl).mono ?_
      rintro e w6 ⟨rfl, hb⟩
      have hB4 := bl_next hB3 hb
      have HR4 := Lib.hid (rw_below HR3.out hb)
      clear hb HR3 hB3
      go_wp2_with fail
      go_roundw
      case rel => exact ⟨_, l ++ [y], parN N y, ⟨by simp, rfl⟩, Lib.hid (by rw [← HE.out, HP.out]; simp), HR4, hB4⟩
      case measure => simp only [lenS]; rw [HP.out]; simp
set_option maxRecDepth 100000 in
set_option maxHeartbeats 4000000 in
theorem rallT_calls (w : World) (h : RefT w base rp v N) (hl : N.length ≤ 1000000) :
    Calls Try.prog 18 #[.pointer (some ⟨rp, 0, none⟩)] w fun e w' => ∃ u, e = .returned u ∧ w'.ownsRow w.heap.size 9 1 u (allN N).length (strC (allN N)) ∧ Below w.heap.size w w' := by
  have hB := Below.refl w.heap.size w
  have H := Lib.hid h
  obtain ⟨ao, cap, rfl⟩ := h.form
  have C0 := Lib.hid (show w.cell? ⟨rp, 0, none⟩ = some (.slice ao N.length cap) from blk_cell h.box 0)
  clear h
  go_enter Try.func18, Try.ntmps18
  go_wp2_with fail
  go_loopw [3, 4] (fun s3 i wr => ∃ (k : Nat) (u : Value), (i = .int .i64 k ∧ s3 = u) ∧ k ≤ N.length ∧ Hid (wr.ownsRow w.heap.size 9 1 u (filTo (fun _ => true) (allN N) k).length (strC (filTo (fun _ => true) (allN N) k))) ∧ Below w.heap.size w wr) (fun _ i _ => N.length - (intOf i).toNat)
  case atStart => exact ⟨0, _, ⟨rfl, rfl⟩, Nat.zero_le _, Lib.hid (World.ownsRow_nil _ _ _ _), hB⟩
  case round =>
    clear hB
    obtain ⟨k, u, ⟨rfl, rfl⟩, hk, HROW, hB⟩ := hrel
    have c0 := cb hB C0.out
    by_cases hkl : k < N.length
    · have hkI : (k : Int) < N.length := by omega
      obtain ⟨g, c', he, c1, c2⟩ := (H.out.below hB).at' hkl
      cases he
      have HN := Lib.hid (filTo_succ (fun _ => true) (allN N) k (by simpa [allN] using hkl))
      rw [allN_at hkl] at HN
      obtain ⟨x, hx⟩ : ∃ x, N[k]'hkl = x := ⟨_, rfl⟩
      rw [hx] at c1 c2 HN
      have hlen := filTo_len (fun _ => true) (allN N) k
      obtain ⟨fl, hfl⟩ : ∃ fl, filTo (fun _ => true) (allN N) k = fl := ⟨_, rfl⟩
      rw [hfl] at HN HROW hlen
      have hbz := hB.size
      have HN2 := Lib.hid (show filTo (fun _ => true) (allN N) (k + 1) = fl ++ [x.1] by rw [HN.out]; rfl)
      clear hx hfl HN
      go_wp2_with (at_builtin; refine app_str rfl (.tmp 14) (.tmp 23) rfl w.heap.size 9 _ fl x.1 rfl HROW.out 1 rfl hbz (by omega) ?_; intro g2 cap2 w5 hown hk4 hat; have HR3 := Lib.hid hown; have hB3 : Below w.heap.size w w5 := hB.trans (hk4.below hB.size (fun q hq => (rw_type HROW.out hq).1)); clear hown hk4 hat)
      go_roundw
      case rel => exact ⟨k + 1, _, ⟨by simp, rfl⟩, by omega, Lib.hid (by rw [HN2.out]; exact HR3.out), hB3⟩
      case measure => simp [intOf]; omega
    · obtain rfl : k = N.length := by omega
      go_wp2
      go_ret
      refine ⟨_, rfl, ?_, hB⟩
      have e1 : filTo (fun _ => true) (allN N) N.length = allN N := by
        have := filTo_all (fun _ => true) (allN N)
        rw [show (allN N).length = N.length by simp [allN]] at this
        rw [this]; simp
      have := HROW.out
      rw [e1] at this; exact this
set_option maxRecDepth 100000 in
set_option maxHeartbeats 4000000 in
theorem rchildT_calls (w : World) (h : RefT w base rp v N) (s : ByteArray) (hl : N.length ≤ 1000000) :
    Calls Try.prog 22 #[.pointer (some ⟨rp, 0, none⟩), .string s] w fun e w' => ∃ u, e = .returned u ∧ w'.ownsRow w.heap.size 9 1 u (childN N s).length (strC (childN N s)) ∧ Below w.heap.size w w' := by
  have hB := Below.refl w.heap.size w
  have H := Lib.hid h
  obtain ⟨ao, cap, rfl⟩ := h.form
  have C0 := Lib.hid (show w.cell? ⟨rp, 0, none⟩ = some (.slice ao N.length cap) from blk_cell h.box 0)
  clear h
  go_enter Try.func22, Try.ntmps22
  go_wp2_with fail
  go_loopw [5, 6] (fun s5 i wr => ∃ (k : Nat) (u : Value), (i = .int .i64 k ∧ s5 = u) ∧ k ≤ N.length ∧ Hid (wr.ownsRow w.heap.size 9 1 u (chTo N s k).length (strC (chTo N s k))) ∧ Below w.heap.size w wr) (fun _ i _ => N.length - (intOf i).toNat)
  case atStart => exact ⟨0, _, ⟨rfl, rfl⟩, Nat.zero_le _, Lib.hid (World.ownsRow_nil _ _ _ _), hB⟩
  case round =>
    clear hB
    obtain ⟨k, u, ⟨rfl, rfl⟩, hk, HROW, hB⟩ := hrel
    have c0 := cb hB C0.out
    by_cases hkl : k < N.length
    · have hkI : (k : Int) < N.length := by omega
      obtain ⟨g, c', he, c1, c2⟩ := (H.out.below hB).at' hkl
      cases he
      have HN := Lib.hid (chTo_succ N s k hkl)
      obtain ⟨x, hx⟩ : ∃ x, N[k]'hkl = x := ⟨_, rfl⟩
      rw [hx] at c1 c2 HN
      have hlen := chTo_len N s k
      obtain ⟨fl, hfl⟩ : ∃ fl, chTo N s k = fl := ⟨_, rfl⟩
      rw [hfl] at HN HROW hlen
      have hbz := hB.size
      clear hx hfl
      by_cases h2 : x.2 = s
      · have hbf : (x.2.toList == s.toList) = true := by rw [beq_str]; simpa using h2
        have hbn : x.2.toList = s.toList := by rw [h2]
        by_cases h1 : x.1 = rootB
        · have hrf : (x.1.toList == [114, 111, 111, 116]) = true := by rw [h1, root_list]; rfl
          have hrn : x.1.toList = [114, 111, 111, 116] := by rw [h1, root_list]
          have HN2 := Lib.hid (show chTo N s (k + 1) = fl by rw [HN.out, h1]; simp)
          clear h1 h2 HN
          go_wp2_with fail
          go_roundw
          case rel => exact ⟨k + 1, _, ⟨by simp, rfl⟩, by omega, Lib.hid (by rw [HN2.out]; exact HROW.out), hB⟩
          case measure => simp [intOf]; omega
        · obtain ⟨hrf, hrn⟩ := rootF h1
          have HN2 := Lib.hid (show chTo N s (k + 1) = fl ++ [x.1] by rw [HN.out]; simp [h1, h2])
          clear h1 h2 HN
          go_wp2_with (at_builtin; refine app_str rfl (.tmp 37) (.tmp 46) rfl w.heap.size 9 _ fl x.1 rfl HROW.out 1 rfl hbz (by omega) ?_; intro g2 cap2 w5 hown hk4 hat; have HR3 := Lib.hid hown; have hB3 : Below w.heap.size w w5 := hB.trans (hk4.below hB.size (fun q hq => (rw_type HROW.out hq).1)); clear hown hk4 hat)
          go_roundw
          case rel => exact ⟨k + 1, _, ⟨by simp, rfl⟩, by omega, Lib.hid (by rw [HN2.out]; exact HR3.out), hB3⟩
          case measure => simp [intOf]; omega
      · have hbf := beqF h2
        have hbn := neF h2
        have HN2 := Lib.hid (show chTo N s (k + 1) = fl by rw [HN.out]; simp [h2])
        clear h2 HN
        go_wp2_with fail
        go_roundw
        case rel => exact ⟨k + 1, _, ⟨by simp, rfl⟩, by omega, Lib.hid (by rw [HN2.out]; exact HROW.out), hB⟩
        case measure => simp [intOf]; omega
    · obtain rfl : k = N.length := by omega
      go_wp2
      go_ret
      refine ⟨_, rfl, ?_, hB⟩
      have := HROW.out
      rw [chTo_all] at this; exact this
set_option maxRecDepth 100000 in
set_option maxHeartbeats 4000000 in
theorem rbelowT_calls (w : World) (h : RefT w base rp v N) (hR : Rising N) (hd : ∀ s, (pathT N s).length < 19) (s : ByteArray) (hl : N.length ≤ 1000000) :
    Calls Try.prog 24 #[.pointer (some ⟨rp, 0, none⟩), .string s] w fun e w' => ∃ u, e = .returned u ∧ w'.ownsRow w.heap.size 9 1 u (belowN N s).length (strC (belowN N s)) ∧ Below w.heap.size w w' := by
  have hB := Below.refl w.heap.size w
  have H := Lib.hid h
  have HD := Lib.hid hd
  obtain ⟨ao, cap, rfl⟩ := h.form
  have C0 := Lib.hid (show w.cell? ⟨rp, 0, none⟩ = some (.slice ao N.length cap) from blk_cell h.box 0)
  clear h hd
  go_enter Try.func24, Try.ntmps24
  go_wp2_with fail
  go_loopw [5, 6] (fun s5 i wr => ∃ (k : Nat) (u : Value), (i = .int .i64 k ∧ s5 = u) ∧ k ≤ N.length ∧ Hid (wr.ownsRow w.heap.size 9 1 u (filTo (fun x => inL (pathT N x) s) (allN N) k).length (strC (filTo (fun x => inL (pathT N x) s) (allN N) k))) ∧ Below w.heap.size w wr) (fun _ i _ => N.length - (intOf i).toNat)
  case atStart => exact ⟨0, _, ⟨rfl, rfl⟩, Nat.zero_le _, Lib.hid (World.ownsRow_nil _ _ _ _), hB⟩
  case round =>
    clear hB
    obtain ⟨k, u, ⟨rfl, rfl⟩, hk, HROW, hB⟩ := hrel
    have c0 := cb hB C0.out
    by_cases hkl : k < N.length
    · have hkI : (k : Int) < N.length := by omega
      obtain ⟨g, c', he, c1, c2⟩ := (H.out.below hB).at' hkl
      cases he
      have HN := Lib.hid (filTo_succ (fun x => inL (pathT N x) s) (allN N) k (by simpa [allN] using hkl))
      rw [allN_at hkl] at HN
      obtain ⟨x, hx⟩ : ∃ x, N[k]'hkl = x := ⟨_, rfl⟩
      rw [hx] at c1 c2 HN
      have hlen := filTo_len (fun x => inL (pathT N x) s) (allN N) k
      obtain ⟨fl, hfl⟩ : ∃ fl, filTo (fun x => inL (pathT N x) s) (allN N) k = fl := ⟨_, rfl⟩
      rw [hfl] at HN HROW hlen
      obtain ⟨pv, hpv⟩ : ∃ pv, inL (pathT N x.1) s = pv := ⟨_, rfl⟩
      have HN2 := Lib.hid (show filTo (fun x => inL (pathT N x) s) (allN N) (k + 1) = if pv then fl ++ [x.1] else fl by rw [HN.out, hpv])
      have HPV := Lib.hid hpv
      have HX := Lib.hid hx
      clear hx hfl HN hpv
      go_wp2_with fail
      refine (rpathT_calls _ (H.out.below hB) hR HD.out x.1 hl).mono ?_
      rintro e w2 ⟨v2, rfl, hrow, hb⟩
      have hB2 := bl_next hB hb
      have HP := Lib.hid hrow
      have HROW2 := Lib.hid (rw_below HROW.out hb)
      clear hrow hb hB HROW c0 c1 c2
      go_wp2_with fail
      refine (in_calls _ (strS_of HP.out) s (by have := HD.out x.1; omega)).mono ?_
      rintro e w3 ⟨rfl, hb⟩
      rw [HPV.out]
      have hB3 := bl_next hB2 hb
      have HROW3 := Lib.hid (rw_below HROW2.out hb)
      clear hb hB2 HROW2 HP
      have hbz := hB3.size
      have c0 := cb hB3 C0.out
      obtain ⟨g', c', he, c1, c2⟩ := (H.out.below hB3).at' hkl
      cases he
      rw [HX.out] at c1 c2
      cases pv with
      | false =>
        go_wp2_with fail
        go_roundw
        case rel => exact ⟨k + 1, _, ⟨by simp, rfl⟩, by omega, Lib.hid (by rw [HN2.out]; exact HROW3.out), hB3⟩
        case measure => simp [intOf]; omega
      | true =>
        go_wp2_with (at_builtin; refine app_str rfl (.tmp 30) (.tmp 39) rfl w.heap.size 9 _ fl _ rfl HROW3.out 1 rfl hbz (by omega) ?_; intro g2 cap2 w5 hown hk4 hat; have HR3 := Lib.hid hown; have hB4 : Below w.heap.size w w5 := hB3.trans (hk4.below hB3.size (fun q hq => (rw_type HROW3.out hq).1)); clear hown hk4 hat)
        go_roundw
        case rel => exact ⟨k + 1, _, ⟨by simp, rfl⟩, by omega, Lib.hid (by rw [HN2.out]; simp only [if_true]; exact HR3.out), hB4⟩
        case measure => simp [intOf]; omega
    · obtain rfl : k = N.length := by omega
      go_wp2
      go_ret
      refine ⟨_, rfl, ?_, hB⟩
      have e1 := filTo_all (fun x => inL (pathT N x) s) (allN N)
      rw [show (allN N).length = N.length by simp [allN]] at e1
      have := HROW.out
      rw [e1] at this; exact this
end
end Go.Proofs.Ythaipgbjnigkhaa
namespace Go.Proofs.Ythaipgbjnigkhaa
open Go.RowKit Go.Shelf Go.Maps
set_option linter.unusedVariables false
set_option linter.unusedSimpArgs false
set_option linter.unusedSectionVars false
theorem info_node : (Try.prog.info? 88).map (fun i => (i.zero, i.size, i.bytes)) = some (some (.agg #[.string ⟨#[]⟩, .string ⟨#[]⟩]), 2, 32) := by kernel_rfl
theorem app_node {ops : Array Oper} {rest : List Oper} {o : Oper} {a : Act} {Q : Exit → Act → World → Prop} {w : World} (hgd : o.guard = none) (s x : Operand)
    (ho : o.op = .call { callee := .builtin .append, args := #[s, x], argTypes := #[89, 89] })
    (base : Nat) (tb : TypeId) (v : Value) (l : Nodes) (u : ByteArray × ByteArray) (hs : a.eval s = v) (hown : w.ownsRow base 88 2 v l.length (nodesC l)) (c : Nat) (hx : a.eval x = .slice (some ⟨w.heap.size, 0, none⟩) 1 c)
    (hbase : base ≤ w.heap.size) (hlen : l.length + 1 ≤ 100000000)
    (h : ∀ g cap w1, w1.ownsRow base 88 2 (.slice (some ⟨g, 0, none⟩) (l.length + 1) cap) (l ++ [u]).length (nodesC (l ++ [u])) → Kept (fun k => v.ownBlock = some k) w w1 → (v.ownBlock = some g ∨ w.heap.size < g) → wpList Try.prog ops Q rest (a.put o.dst (.slice (some ⟨g, 0, none⟩) (l.length + 1) cap)) w1) :
    wpList Try.prog ops Q (o :: rest) a (w.alloc (.cells #[.string u.1, .string u.2] tb)) := by
  obtain ⟨i0, hi, hz0, hz1, hz2⟩ := info_parts info_node
  refine app_rw hgd s x _ ho base _ i0 _ 2 32 Try.underlying89 hi hz0 hz1 hz2 rfl (by decide) tb v l.length (nodesC l) [.string u.1, .string u.2] hs hown c hx rfl (by simp [Value.oneCell']) hbase hlen (by decide) ?_
  intro g cap w1 h1 h2 h3
  refine h g cap w1 ?_ h2 h3
  rw [List.length_append, ← nodesC_app]; exact h1
theorem nodes_cells (p : ByteArray × ByteArray) : (Value.agg #[.string p.1, .string p.2]).cells = #[.string p.1, .string p.2] := by simp [Value.cells]
def delTo (N : Nodes) (s : ByteArray) (k : Nat) : Nodes := delN (N.take k) s
theorem delTo_succ (N : Nodes) (s : ByteArray) (k : Nat) (h : k < N.length) : delTo N s (k + 1) = if (N[k]'h).1 = s then delTo N s k else delTo N s k ++ [N[k]'h] := by
  unfold delTo delN
  rw [List.take_succ_eq_append_getElem h, List.filter_append]
  by_cases q : (N[k]'h).1 = s <;> simp [q]
theorem delTo_all (N : Nodes) (s : ByteArray) : delTo N s N.length = delN N s := by unfold delTo; rw [List.take_length]
theorem delTo_len (N : Nodes) (s : ByteArray) (k : Nat) : (delTo N s k).length ≤ k := by
  unfold delTo delN; exact Nat.le_trans (List.length_filter_le _ _) (by rw [List.length_take]; exact Nat.min_le_left _ _)
/-- The store of the row that was made. -/
theorem refT_store {w cur : World} {base rp : Nat} {v u : Value} {N M : Nodes} (h : RefT w base rp v N) (hb : Below w.heap.size w cur) (hu : cur.ownsRow w.heap.size 88 2 u M.length (nodesC M)) :
    RefT (cur.setCell ⟨rp, 0, none⟩ u) base rp u M ∧ Kept (fun q => q = rp) w (cur.setCell ⟨rp, 0, none⟩ u) := by
  have hbox := (h.below hb).box
  have hlt := blk_lt h.box
  refine ⟨⟨heap_setCell_same _ rp 0 _ _ _ hbox, ?_, h.bas⟩, (kept_of_below (X := fun q => q = rp) hb).setCell _ _ (.inl rfl)⟩
  exact rw_mono (rw_kept hu (X := fun q => q = rp) ((Kept.refl _ _).setCell _ _ (.inl rfl)) (fun q hq e => rw_other hu hbox (by decide) (by rw [← e]; exact hq))) (by have := h.bas; omega)
section
variable {base rp : Nat} {v : Value} {N : Nodes}
set_option maxRecDepth 100000 in
set_option maxHeartbeats 4000000 in
theorem rremoveT_calls (w : World) (h : RefT w base rp v N) (s : ByteArray) (hl : N.length ≤ 1000000) (r : Int) (M : Nodes) (hr : removeR N s = (r, M)) :
    Calls Try.prog 61 #[.pointer (some ⟨rp, 0, none⟩), .string s] w fun e w' => e = .returned (.int .i64 r) ∧ ∃ u, RefT w' base rp u M ∧ Kept (fun q => q = rp) w w' := by
  have hB := Below.refl w.heap.size w
  have H := Lib.hid h
  obtain ⟨ao, cap, rfl⟩ := h.form
  have C0 := Lib.hid (show w.cell? ⟨rp, 0, none⟩ = some (.slice ao N.length cap) from blk_cell h.box 0)
  have CF := Lib.hid (show w.frozen? ⟨rp, 0, none⟩ = false from blk_free h.box 0)
  clear h
  unfold removeR at hr
  cases h1 : hasN N s with
  | false =>
    rw [h1] at hr
    have H1 := Lib.hid h1
    clear h1
    obtain ⟨rfl, rfl⟩ : r = 4 ∧ M = N := by simpa [eq_comm] using hr
    clear hr
    go_enter Try.func61, Try.ntmps61
    go_wp2_with (go_at_call 26; refine (rhasT_calls _ (H.out.below hB) s hl).mono ?_; rintro e w' ⟨rfl, hb⟩; rw [H1.out]; have hB := bl_next hB hb; clear hb)
    go_ret
    exact ⟨rfl, _, H.out.below hB, kept_of_below hB⟩
  | true =>
    rw [h1] at hr
    have H1 := Lib.hid h1
    clear h1
    simp only [Bool.not_true, Bool.false_eq_true, if_false] at hr
    by_cases hroot : s = rootB
    · rw [if_pos hroot] at hr
      obtain ⟨rfl, rfl⟩ : r = 1 ∧ M = N := by simpa [eq_comm] using hr
      clear hr
      have hrf : (s.toList == [114, 111, 111, 116]) = true := by rw [hroot, root_list]; rfl
      have hrn : s.toList = [114, 111, 111, 116] := by rw [hroot, root_list]
      clear hroot
      go_enter Try.func61, Try.ntmps61
      go_wp2_with (go_at_call 26; refine (rhasT_calls _ (H.out.below hB) s hl).mono ?_; rintro e w' ⟨rfl, hb⟩; rw [H1.out]; have hB := bl_next hB hb; clear hb)
      go_ret
      exact ⟨rfl, _, H.out.below hB, kept_of_below hB⟩
    · rw [if_neg hroot] at hr
      obtain ⟨hrf, hrn⟩ := rootF hroot
      clear hroot
      obtain ⟨ch, hch⟩ : ∃ ch, childN N s = ch := ⟨_, rfl⟩
      have HC := Lib.hid hch
      rw [hch] at hr
      clear hch
      cases hce : ch with
      | cons a t =>
        subst hce
        obtain ⟨rfl, rfl⟩ : r = 10 ∧ M = N := by simpa [eq_comm] using hr
        clear hr
        have hlI : (0 : Int) < (t.length : Int) + 1 := by omega
        go_enter Try.func61, Try.ntmps61
        go_wp2_with fail
        refine (rhasT_calls _ (H.out.below hB) s hl).mono ?_; rintro e w' ⟨rfl, hb⟩; rw [H1.out]; have hB := bl_next hB hb; clear hb
        go_wp2_with fail
        refine (rchildT_calls _ (H.out.below hB) s hl).mono ?_; rintro e w' ⟨u, rfl, hrow, hb⟩; rw [HC.out] at hrow; obtain ⟨au, cu, rfl⟩ := rw_form hrow; rw [List.length_cons]; have hB := bl_next hB hb; clear hb hrow
        go_wp2_with fail
        go_ret
        exact ⟨rfl, _, H.out.below hB, kept_of_below hB⟩
      | nil =>
        subst hce
        obtain ⟨rfl, rfl⟩ : r = 0 ∧ M = delN N s := by simpa [eq_comm] using hr
        clear hr
        go_enter Try.func61, Try.ntmps61
        go_wp2_with fail
        refine (rhasT_calls _ (H.out.below hB) s hl).mono ?_; rintro e w' ⟨rfl, hb⟩; rw [H1.out]; have hB := bl_next hB hb; clear hb
        go_wp2_with fail
        refine (rchildT_calls _ (H.out.below hB) s hl).mono ?_; rintro e w' ⟨u, rfl, hrow, hb⟩; rw [HC.out] at hrow; obtain ⟨au, cu, rfl⟩ := rw_form hrow; have hB := bl_next hB hb; clear hb hrow
        rw [List.length_nil]
        go_wp2_with fail
        go_loopw [5, 6] (fun s5 i wr => ∃ (k : Nat) (u : Value), (i = .int .i64 k ∧ s5 = u) ∧ k ≤ N.length ∧ Hid (wr.ownsRow w.heap.size 88 2 u (delTo N s k).length (nodesC (delTo N s k))) ∧ Below w.heap.size w wr) (fun _ i _ => N.length - (intOf i).toNat)
        case atStart => exact ⟨0, _, ⟨rfl, rfl⟩, Nat.zero_le _, Lib.hid (World.ownsRow_nil _ _ _ _), hB⟩
        case round =>
          clear hB
          obtain ⟨k, u, ⟨rfl, rfl⟩, hk, HROW, hB⟩ := hrel
          have c0 := cb hB C0.out
          by_cases hkl : k < N.length
          · have hkI : (k : Int) < N.length := by omega
            obtain ⟨g, c', he, c1, c2⟩ := (H.out.below hB).at' hkl
            cases he
            have HN := Lib.hid (delTo_succ N s k hkl)
            obtain ⟨x, hx⟩ : ∃ x, N[k]'hkl = x := ⟨_, rfl⟩
            rw [hx] at c1 c2 HN
            have hlen := delTo_len N s k
            obtain ⟨fl, hfl⟩ : ∃ fl, delTo N s k = fl := ⟨_, rfl⟩
            rw [hfl] at HN HROW hlen
            have hbz := hB.size
            clear hx hfl
            by_cases h2 : x.1 = s
            · have hbf : (x.1.toList == s.toList) = true := by rw [beq_str]; simpa using h2
              have hbn : x.1.toList = s.toList := by rw [h2]
              have HN2 := Lib.hid (show delTo N s (k + 1) = fl by rw [HN.out, if_pos h2])
              clear h2 HN
              go_wp2_with fail
              go_roundw
              case rel => exact ⟨k + 1, _, ⟨by simp, rfl⟩, by omega, Lib.hid (by rw [HN2.out]; exact HROW.out), hB⟩
              case measure => simp [intOf]; omega
            · have hbf := beqF h2
              have hbn := neF h2
              have HN2 := Lib.hid (show delTo N s (k + 1) = fl ++ [x] by rw [HN.out, if_neg h2])
              clear h2 HN
              go_wp2_with (at_builtin; refine app_node rfl (.tmp 37) (.tmp 45) rfl w.heap.size 88 _ fl x rfl HROW.out 1 rfl (by first | omega | (simp; omega)) (by omega) ?_; intro g2 cap2 w5 hown hk4 hat; have HR3 := Lib.hid hown; have hB3 : Below w.heap.size w w5 := Below.trans hB (hk4.below (Below.size hB) (fun q hq => (rw_type HROW.out hq).1)); clear hown hk4 hat)
              go_roundw
              case rel => exact ⟨k + 1, _, ⟨by simp, rfl⟩, by omega, Lib.hid (by rw [HN2.out]; exact HR3.out), hB3⟩
              case measure => simp [intOf]; omega
          · obtain rfl : k = N.length := by omega
            have cf := fzb hB (lt_of_cell C0.out) CF.out
            have hrow := HROW.out
            rw [delTo_all] at hrow
            have HX := Lib.hid hrow
            clear hrow HROW
            obtain ⟨a5, c5, rfl⟩ := rw_form HX.out
            go_wp2_with fail
            go_ret
            obtain ⟨q1, q2⟩ := refT_store H.out hB HX.out
            exact ⟨rfl, _, q1, q2⟩
end
end Go.Proofs.Ythaipgbjnigkhaa
namespace Go.Proofs.Ythaipgbjnigkhaa
open Go.RowKit Go.Shelf Go.Maps
set_option linter.unusedVariables false
set_option linter.unusedSimpArgs false
set_option linter.unusedSectionVars false
/-! ### Create: the row with one more -/
def doneTo (N : Nodes) (s : ByteArray) (k : Nat) : Bool := (N.take k).any fun q => ltB s q.1
theorem ins_any {L : Nodes} {s p : ByteArray} (h : (L.any fun q => ltB s q.1) = true) (R : Nodes) : insN (L ++ R) s p = insN L s p ++ R := by
  induction L with
  | nil => cases h
  | cons y r ih =>
    simp only [List.cons_append, insN]
    split
    · rfl
    · rename_i hy
      rw [List.any_cons, Bool.or_eq_true] at h
      rw [ih (h.resolve_left hy)]; rfl
theorem ins_none {L : Nodes} {s p : ByteArray} (h : (L.any fun q => ltB s q.1) = false) (R : Nodes) : insN (L ++ R) s p = L ++ insN R s p := by
  induction L with
  | nil => rfl
  | cons y r ih =>
    rw [List.any_cons, Bool.or_eq_false_iff] at h
    simp only [List.cons_append, insN, h.1, Bool.false_eq_true, if_false]
    rw [ih h.2]
def outTo (N : Nodes) (s p : ByteArray) (k : Nat) : Nodes := if doneTo N s k then insN (N.take k) s p else N.take k
theorem outTo_zero (N : Nodes) (s p : ByteArray) : outTo N s p 0 = [] ∧ doneTo N s 0 = false := by simp [outTo, doneTo]
theorem outTo_done {N : Nodes} {s p : ByteArray} {k : Nat} (hk : k < N.length) (h : doneTo N s k = true) : doneTo N s (k + 1) = true ∧ outTo N s p (k + 1) = outTo N s p k ++ [N[k]'hk] := by
  have h2 : doneTo N s (k + 1) = true := by
    unfold doneTo at h ⊢
    rw [List.take_succ_eq_append_getElem hk, List.any_append, h]; rfl
  refine ⟨h2, ?_⟩
  unfold outTo
  rw [h2, h, if_pos rfl, if_pos rfl, List.take_succ_eq_append_getElem hk]
  exact ins_any h _
theorem outTo_here {N : Nodes} {s p : ByteArray} {k : Nat} (hk : k < N.length) (h : doneTo N s k = false) (hl : ltB s (N[k]'hk).1 = true) : doneTo N s (k + 1) = true ∧ outTo N s p (k + 1) = outTo N s p k ++ [(s, p)] ++ [N[k]'hk] := by
  have h2 : doneTo N s (k + 1) = true := by
    unfold doneTo at h ⊢
    rw [List.take_succ_eq_append_getElem hk, List.any_append, h]; simp [hl]
  refine ⟨h2, ?_⟩
  unfold outTo
  rw [h2, h, if_pos rfl, if_neg (by simp), List.take_succ_eq_append_getElem hk]
  rw [ins_none h]
  simp [insN, hl]
theorem outTo_not {N : Nodes} {s p : ByteArray} {k : Nat} (hk : k < N.length) (h : doneTo N s k = false) (hl : ltB s (N[k]'hk).1 = false) : doneTo N s (k + 1) = false ∧ outTo N s p (k + 1) = outTo N s p k ++ [N[k]'hk] := by
  have h2 : doneTo N s (k + 1) = false := by
    unfold doneTo at h ⊢
    rw [List.take_succ_eq_append_getElem hk, List.any_append, h]; simp [hl]
  refine ⟨h2, ?_⟩
  unfold outTo
  rw [h2, h, if_neg (by simp), if_neg (by simp), List.take_succ_eq_append_getElem hk]
theorem outTo_all_done {N : Nodes} {s p : ByteArray} (h : doneTo N s N.length = true) : outTo N s p N.length = insN N s p := by
  unfold outTo; rw [h, if_pos rfl, List.take_length]
theorem outTo_all_not {N : Nodes} {s p : ByteArray} (h : doneTo N s N.length = false) : outTo N s p N.length ++ [(s, p)] = insN N s p := by
  unfold outTo; rw [h, if_neg (by simp), List.take_length]
  unfold doneTo at h
  rw [List.take_length] at h
  have := ins_none (p := p) h []
  rw [List.append_nil] at this
  rw [this]; rfl
theorem outTo_len (N : Nodes) (s p : ByteArray) (k : Nat) : (outTo N s p k).length ≤ k + 1 := by
  unfold outTo
  split
  · rw [insN_length, List.length_take]; omega
  · rw [List.length_take]; omega
section
variable {base rp : Nat} {v : Value} {N : Nodes}
set_option maxRecDepth 100000 in
set_option maxHeartbeats 8000000 in
theorem rcreateT_calls (w : World) (h : RefT w base rp v N) (hR : Rising N) (hd : ∀ s, (pathT N s).length < 19) (s p : ByteArray) (hl : N.length ≤ 1000000) (hfit : ∀ x y, (x, y) ∈ N → x.size ≤ 100 ∧ y.size ≤ 100) (hs : s.size ≤ 1000) (r : Int) (M : Nodes) (hr : createR N s p = (r, M)) :
    Calls Try.prog 62 #[.pointer (some ⟨rp, 0, none⟩), .string s, .string p] w fun e w' => e = .returned (.int .i64 r) ∧ ∃ u, RefT w' base rp u M ∧ Kept (fun q => q = rp) w w' := by
  have hB := Below.refl w.heap.size w
  have H := Lib.hid h
  have HD := Lib.hid hd
  have HFIT := Lib.hid hfit
  obtain ⟨ao, cap, rfl⟩ := h.form
  have C0 := Lib.hid (show w.cell? ⟨rp, 0, none⟩ = some (.slice ao N.length cap) from blk_cell h.box 0)
  have CF := Lib.hid (show w.frozen? ⟨rp, 0, none⟩ = false from blk_free h.box 0)
  clear h hd hfit
  unfold createR at hr
  cases h1 : rightB s with
  | false =>
    rw [h1] at hr
    have H1 := Lib.hid h1
    clear h1
    obtain ⟨rfl, rfl⟩ : r = 1 ∧ M = N := by simpa [eq_comm] using hr
    clear hr
    go_enter Try.func62, Try.ntmps62
    go_wp2_with fail
    refine (refRight_calls s _ (by omega)).mono ?_; rintro e w' ⟨rfl, nn, rfl⟩; rw [H1.out]; have hB := bl_dN hB nn
    go_wp2_with fail
    go_ret
    exact ⟨rfl, _, H.out.below hB, kept_of_below hB⟩
  | true =>
    rw [h1] at hr
    have H1 := Lib.hid h1
    clear h1
    simp only [Bool.not_true, Bool.false_eq_true, if_false] at hr
    cases h2 : hasN N s with
    | true =>
      rw [h2] at hr
      have H2 := Lib.hid h2
      clear h2
      obtain ⟨rfl, rfl⟩ : r = 5 ∧ M = N := by simpa [eq_comm] using hr
      clear hr
      go_enter Try.func62, Try.ntmps62
      go_wp2_with fail
      refine (refRight_calls s _ (by omega)).mono ?_; rintro e w' ⟨rfl, nn, rfl⟩; rw [H1.out]; have hB := bl_dN hB nn
      go_wp2_with fail
      refine (rhasT_calls _ (H.out.below hB) s hl).mono ?_; rintro e w' ⟨rfl, hb⟩; rw [H2.out]; have hB := bl_next hB hb; clear hb
      go_wp2_with fail
      go_ret
      exact ⟨rfl, _, H.out.below hB, kept_of_below hB⟩
    | false =>
      rw [h2] at hr
      have H2 := Lib.hid h2
      clear h2
      simp only [Bool.false_eq_true, if_false] at hr
      cases h3 : hasN N p with
      | false =>
        rw [h3] at hr
        have H3 := Lib.hid h3
        clear h3
        obtain ⟨rfl, rfl⟩ : r = 4 ∧ M = N := by simpa [eq_comm] using hr
        clear hr
        go_enter Try.func62, Try.ntmps62
        go_wp2_with fail
        refine (refRight_calls s _ (by omega)).mono ?_; rintro e w' ⟨rfl, nn, rfl⟩; rw [H1.out]; have hB := bl_dN hB nn
        go_wp2_with fail
        refine (rhasT_calls _ (H.out.below hB) s hl).mono ?_; rintro e w' ⟨rfl, hb⟩; rw [H2.out]; have hB := bl_next hB hb; clear hb
        go_wp2_with fail
        refine (rhasT_calls _ (H.out.below hB) p hl).mono ?_; rintro e w' ⟨rfl, hb⟩; rw [H3.out]; have hB := bl_next hB hb; clear hb
        go_wp2_with fail
        go_ret
        exact ⟨rfl, _, H.out.below hB, kept_of_below hB⟩
      | true =>
        rw [h3] at hr
        have H3 := Lib.hid h3
        clear h3
        simp only [Bool.not_true, Bool.false_eq_true, if_false] at hr
        obtain ⟨pl, hpl⟩ : ∃ l, pathT N p = l := ⟨_, rfl⟩
        have HPL := Lib.hid hpl
        rw [hpl] at hr
        have hpl19 : pl.length < 19 := by rw [← hpl]; exact HD.out p
        clear hpl
        by_cases h4 : 8 ≤ pl.length
        · rw [if_pos h4] at hr
          obtain ⟨rfl, rfl⟩ : r = 9 ∧ M = N := by simpa [eq_comm] using hr
          clear hr
          have h4I : (8 : Int) < (pl.length : Int) + 1 := by omega
          clear h4
          go_enter Try.func62, Try.ntmps62
          go_wp2_with fail
          refine (refRight_calls s _ (by omega)).mono ?_; rintro e w' ⟨rfl, nn, rfl⟩; rw [H1.out]; have hB := bl_dN hB nn
          go_wp2_with fail
          refine (rhasT_calls _ (H.out.below hB) s hl).mono ?_; rintro e w' ⟨rfl, hb⟩; rw [H2.out]; have hB := bl_next hB hb; clear hb
          go_wp2_with fail
          refine (rhasT_calls _ (H.out.below hB) p hl).mono ?_; rintro e w' ⟨rfl, hb⟩; rw [H3.out]; have hB := bl_next hB hb; clear hb
          go_wp2_with fail
          refine (rpathT_calls _ (H.out.below hB) hR HD.out p hl).mono ?_; rintro e w' ⟨u, rfl, hrow, hb⟩; rw [HPL.out] at hrow; obtain ⟨au, cu, rfl⟩ := rw_form hrow; have hB := bl_next hB hb; clear hb hrow
          go_wp2_with fail
          go_ret
          exact ⟨rfl, _, H.out.below hB, kept_of_below hB⟩
        · rw [if_neg h4] at hr
          have h4I : (pl.length : Int) + 1 ≤ 8 := by omega
          clear h4
          by_cases h5 : 200 ≤ N.length
          · rw [if_pos h5] at hr
            obtain ⟨rfl, rfl⟩ : r = 3 ∧ M = N := by simpa [eq_comm] using hr
            clear hr
            have h5I : (200 : Int) < (M.length : Int) + 1 := by omega
            clear h5
            go_enter Try.func62, Try.ntmps62
            go_wp2_with fail
            refine (refRight_calls s _ (by omega)).mono ?_; rintro e w' ⟨rfl, nn, rfl⟩; rw [H1.out]; have hB := bl_dN hB nn
            go_wp2_with fail
            refine (rhasT_calls _ (H.out.below hB) s hl).mono ?_; rintro e w' ⟨rfl, hb⟩; rw [H2.out]; have hB := bl_next hB hb; clear hb
            go_wp2_with fail
            refine (rhasT_calls _ (H.out.below hB) p hl).mono ?_; rintro e w' ⟨rfl, hb⟩; rw [H3.out]; have hB := bl_next hB hb; clear hb
            go_wp2_with fail
            refine (rpathT_calls _ (H.out.below hB) hR HD.out p hl).mono ?_; rintro e w' ⟨u, rfl, hrow, hb⟩; rw [HPL.out] at hrow; obtain ⟨au, cu, rfl⟩ := rw_form hrow; have hB := bl_next hB hb; clear hb hrow
            have c0 := cb hB C0.out
            go_wp2_with fail
            go_ret
            exact ⟨rfl, _, H.out.below hB, kept_of_below hB⟩
          · rw [if_neg h5] at hr
            obtain ⟨rfl, rfl⟩ : r = 0 ∧ M = insN N s p := by simpa [eq_comm] using hr
            clear hr
            have h5I : (N.length : Int) + 1 ≤ 200 := by omega
            clear h5
            go_enter Try.func62, Try.ntmps62
            go_wp2_with fail
            refine (refRight_calls s _ (by omega)).mono ?_; rintro e w' ⟨rfl, nn, rfl⟩; rw [H1.out]; have hB := bl_dN hB nn
            go_wp2_with fail
            refine (rhasT_calls _ (H.out.below hB) s hl).mono ?_; rintro e w' ⟨rfl, hb⟩; rw [H2.out]; have hB := bl_next hB hb; clear hb
            go_wp2_with fail
            refine (rhasT_calls _ (H.out.below hB) p hl).mono ?_; rintro e w' ⟨rfl, hb⟩; rw [H3.out]; have hB := bl_next hB hb; clear hb
            go_wp2_with fail
            refine (rpathT_calls _ (H.out.below hB) hR HD.out p hl).mono ?_; rintro e w' ⟨u, rfl, hrow, hb⟩; rw [HPL.out] at hrow; obtain ⟨au, cu, rfl⟩ := rw_form hrow; have hB := bl_next hB hb; clear hb hrow
            have c0 := cb hB C0.out
            go_wp2_with fail
            clear c0
            go_loopw [8, 9, 10] (fun s8 s9 i wr => ∃ (k : Nat) (u : Value) (d : Bool), (i = .int .i64 k ∧ s8 = u ∧ s9 = .bool d) ∧ k ≤ N.length ∧ Hid (doneTo N s k = d) ∧ Hid (wr.ownsRow w.heap.size 88 2 u (outTo N s p k).length (nodesC (outTo N s p k))) ∧ Below w.heap.size w wr) (fun _ _ i _ => N.length - (intOf i).toNat)
            case atStart => exact ⟨0, _, false, ⟨rfl, rfl, rfl⟩, Nat.zero_le _, Lib.hid (outTo_zero N s p).2, Lib.hid (by rw [(outTo_zero N s p).1]; exact World.ownsRow_nil _ _ _ _), hB⟩
            case round =>
              clear hB
              obtain ⟨k, u, d, ⟨rfl, rfl, rfl⟩, hk, HDN, HROW, hB⟩ := hrel
              have c0 := cb hB C0.out
              by_cases hkl : k < N.length
              · have hkI : (k : Int) < N.length := by omega
                obtain ⟨g, c', he, c1, c2⟩ := (H.out.below hB).at' hkl
                cases he
                have HN1 := Lib.hid (outTo_done (p := p) hkl (s := s))
                have HN2 := Lib.hid (outTo_here (p := p) hkl (s := s))
                have HN3 := Lib.hid (outTo_not (p := p) hkl (s := s))
                obtain ⟨x, hx⟩ : ∃ x, N[k]'hkl = x := ⟨_, rfl⟩
                have hxs : x.1.size ≤ 100 := (HFIT.out x.1 x.2 (hx ▸ List.getElem_mem hkl)).1
                rw [hx] at c1 c2 HN1 HN2 HN3
                have hlen := outTo_len N s p k
                obtain ⟨fl, hfl⟩ : ∃ fl, outTo N s p k = fl := ⟨_, rfl⟩
                rw [hfl] at HN1 HN2 HN3 HROW hlen
                have HX := Lib.hid hx
                clear hx hfl
                obtain ⟨lt, hlt⟩ : ∃ b, ltB s x.1 = b := ⟨_, rfl⟩
                have HLT := Lib.hid hlt
                clear hlt
                go_wp2_with fail
                refine (before_calls s x.1 _ (by omega) (by omega)).mono ?_
                rintro e w' ⟨rfl, nn, rfl⟩
                rw [show Op.bytesLess s.toList x.1.toList = lt from HLT.out]
                have hB0 := hB
                have hB := bl_dN hB nn
                have c0 := cb hB C0.out
                obtain ⟨g', c', he, c1, c2⟩ := (H.out.below hB).at' hkl
                cases he
                rw [HX.out] at c1 c2
                have HROW2 := Lib.hid (rw_below HROW.out (bl_dN (Below.refl _ _) nn))
                clear HROW hB0
                have hbz := hB.size
                cases d with
                | true =>
                  obtain ⟨e1, e2⟩ := HN1.out HDN.out
                  have E1 := Lib.hid e1; have E2 := Lib.hid e2
                  clear e1 e2 HN1 HN2 HN3 HDN
                  go_wp2_with (at_builtin; refine app_node rfl (.tmp 66) (.tmp 74) rfl w.heap.size 88 _ fl x rfl HROW2.out 1 rfl hbz (by first | omega | (simp only [List.length_append, List.length_singleton]; omega)) ?_; intro g2 cap2 w5 hown hk4 hat; skip; have HR3 := Lib.hid hown; have hB3 : Below w.heap.size w w5 := Below.trans hB (hk4.below (Below.size hB) (fun q hq => (rw_type HROW2.out hq).1)); have hz3 := Below.size hB3; clear hown hk4 hat)
                  go_roundw
                  case rel => exact ⟨k + 1, _, true, ⟨by simp, rfl, rfl⟩, by omega, E1, Lib.hid (by rw [E2.out]; exact HR3.out), hB3⟩
                  case measure => simp [intOf]; omega
                | false =>
                  cases lt with
                  | false =>
                    obtain ⟨e1, e2⟩ := HN3.out HDN.out HLT.out
                    have E1 := Lib.hid e1; have E2 := Lib.hid e2
                    clear e1 e2 HN1 HN2 HN3 HDN
                    go_wp2_with (at_builtin; refine app_node rfl (.tmp 66) (.tmp 74) rfl w.heap.size 88 _ fl x rfl HROW2.out 1 rfl hbz (by first | omega | (simp only [List.length_append, List.length_singleton]; omega)) ?_; intro g2 cap2 w5 hown hk4 hat; skip; have HR3 := Lib.hid hown; have hB3 : Below w.heap.size w w5 := Below.trans hB (hk4.below (Below.size hB) (fun q hq => (rw_type HROW2.out hq).1)); have hz3 := Below.size hB3; clear hown hk4 hat)
                    go_roundw
                    case rel => exact ⟨k + 1, _, false, ⟨by simp, rfl, rfl⟩, by omega, E1, Lib.hid (by rw [E2.out]; exact HR3.out), hB3⟩
                    case measure => simp [intOf]; omega
                  | true =>
                    obtain ⟨e1, e2⟩ := HN2.out HDN.out HLT.out
                    have E1 := Lib.hid e1; have E2 := Lib.hid e2
                    clear e1 e2 HN1 HN2 HN3 HDN
                    go_wp2_with (first | (at_builtin; refine app_node rfl (.tmp 60) (.tmp 64) rfl w.heap.size 88 _ fl (s, p) rfl HROW2.out 1 rfl hbz (by first | omega | (simp only [List.length_append, List.length_singleton]; omega)) ?_; intro g2 cap2 w5 hown hk4 hat; skip; have HR3 := Lib.hid hown; have hB3 : Below w.heap.size w w5 := Below.trans hB (hk4.below (Below.size hB) (fun q hq => (rw_type HROW2.out hq).1)); have hz3 := Below.size hB3; clear hown hk4 hat c0 c1 c2; have c0 := cb hB3 C0.out; obtain ⟨g'', c'', he, c1, c2⟩ := (H.out.below hB3).at' hkl; cases he; rw [HX.out] at c1 c2) | (at_builtin; refine app_node rfl (.tmp 66) (.tmp 74) rfl w.heap.size 88 _ (fl ++ [(s, p)]) x rfl HR3.out 1 rfl hz3 (by first | omega | (simp only [List.length_append, List.length_singleton]; omega)) ?_; intro g2 cap2 w5 hown hk4 hat; skip; have HR4 := Lib.hid hown; have hB4 : Below w.heap.size w w5 := Below.trans hB3 (hk4.below (Below.size hB3) (fun q hq => (rw_type HR3.out hq).1)); have hz4 := Below.size hB4; clear hown hk4 hat))
                    go_roundw
                    case rel => exact ⟨k + 1, _, true, ⟨by simp, rfl, rfl⟩, by omega, E1, Lib.hid (by rw [E2.out]; have q := HR4.out; rw [show (fl ++ [(s, p)]).length = fl.length + 1 by simp] at q; exact q), hB4⟩
                    case measure => simp [intOf]; omega
              · obtain rfl : k = N.length := by omega
                have cf := fzb hB (lt_of_cell C0.out) CF.out
                have hbz := hB.size
                have hlen := outTo_len N s p N.length
                cases d with
                | true =>
                  have hrow := HROW.out
                  rw [outTo_all_done HDN.out] at hrow
                  have HX := Lib.hid hrow
                  clear hrow HROW
                  obtain ⟨a5, c5, rfl⟩ := rw_form HX.out
                  go_wp2_with fail
                  go_ret
                  obtain ⟨q1, q2⟩ := refT_store H.out hB HX.out
                  exact ⟨rfl, _, q1, q2⟩
                | false =>
                  have HE := Lib.hid (outTo_all_not (p := p) HDN.out)
                  obtain ⟨fl, hfl⟩ : ∃ fl, outTo N s p N.length = fl := ⟨_, rfl⟩
                  rw [hfl] at HROW HE hlen
                  clear hfl
                  go_wp2_with (at_builtin; refine app_node rfl (.tmp 78) (.tmp 82) rfl w.heap.size 88 _ fl (s, p) rfl HROW.out 1 rfl hbz (by first | omega | (simp only [List.length_append, List.length_singleton]; omega)) ?_; intro g2 cap2 w5 hown hk4 hat; skip; have HR3 := Lib.hid hown; have cf := fzb (Below.trans hB (hk4.below (Below.size hB) (fun q hq => (rw_type HROW.out hq).1))) (lt_of_cell C0.out) CF.out; have c0 := cb (Below.trans hB (hk4.below (Below.size hB) (fun q hq => (rw_type HROW.out hq).1))) C0.out; have hB3 : Below w.heap.size w w5 := Below.trans hB (hk4.below (Below.size hB) (fun q hq => (rw_type HROW.out hq).1)); have hz3 := Below.size hB3; clear hown hk4 hat)
                  go_ret
                  have hrow := HR3.out
                  rw [HE.out] at hrow
                  obtain ⟨q1, q2⟩ := refT_store H.out hB3 hrow
                  exact ⟨rfl, _, q1, q2⟩
end
end Go.Proofs.Ythaipgbjnigkhaa
namespace Go.Proofs.Ythaipgbjnigkhaa
open Go.RowKit Go.Shelf Go.Maps
set_option linter.unusedVariables false
set_option linter.unusedSimpArgs false
set_option linter.unusedSectionVars false
set_option maxRecDepth 100000 in
theorem rbegin_calls (w : World) : Calls Try.prog 13 #[] w fun e w' => ∃ rp u, e = .returned (.pointer (some ⟨rp, 0, none⟩)) ∧ RefT w' w.heap.size rp u [(rootB, ⟨#[]⟩)] ∧ Below w.heap.size w w' := by
  have hB := Below.refl w.heap.size w
  go_enter Try.func13, Try.ntmps13
  go_wp2_with fail
  go_ret
  have hb1 := (Below.refl w.heap.size w).alloc (Nat.le_refl _) (.cells #[.string ⟨#[114, 111, 111, 116]⟩, .string ⟨#[]⟩] 88)
  have hb2 := hb1.alloc (by simp) (.cells #[.slice (some ⟨w.heap.size, 0, none⟩) 1 1] 91)
  have h1 := blk_new w (.cells #[.string ⟨#[114, 111, 111, 116]⟩, .string ⟨#[]⟩] 88)
  refine ⟨w.heap.size + 1, .slice (some ⟨w.heap.size, 0, none⟩) 1 1, rfl, ⟨?_, ⟨rfl, .inr ⟨w.heap.size, 1, #[.string ⟨#[114, 111, 111, 116]⟩, .string ⟨#[]⟩], rfl, Nat.le_refl _, ?_, Nat.le_refl _, by decide, rfl, rfl⟩⟩, by omega⟩, hb2⟩
  · have := blk_new (w.alloc (.cells #[.string ⟨#[114, 111, 111, 116]⟩, .string ⟨#[]⟩] 88)) (.cells #[.slice (some ⟨w.heap.size, 0, none⟩) 1 1] 91)
    simpa using this
  · exact blk_below h1 ((Below.refl _ _).alloc (Nat.le_refl _) _)
/-! Move: the row with another parent -/
def setTo (N : Nodes) (s p : ByteArray) (k : Nat) : Nodes := setN (N.take k) s p
theorem setTo_succ {N : Nodes} {s p : ByteArray} {k : Nat} (h : k < N.length) : setTo N s p (k + 1) = setTo N s p k ++ [if (N[k]'h).1 = s then ((N[k]'h).1, p) else N[k]'h] := by
  unfold setTo setN
  rw [List.take_succ_eq_append_getElem h, List.map_append]; rfl
theorem setTo_all (N : Nodes) (s p : ByteArray) : setTo N s p N.length = setN N s p := by unfold setTo; rw [List.take_length]
theorem setTo_len {N : Nodes} {s p : ByteArray} {k : Nat} (h : k ≤ N.length) : (setTo N s p k).length = k := by unfold setTo; rw [setN_length, List.length_take]; omega
/-- What the reference looks at. -/
theorem move_found {N : Nodes} (G : Good11 N) {s p : ByteArray} (hs : hasN N s = true) (hp : inL (pathT N p) s = false) : (8 < (pathT N p).length + deepN N s) ↔ ∃ k, ∃ h : k < (setN N s p).length, 8 < (pathT (setN N s p) ((setN N s p)[k]'h).1).length := by
  have hp' : s ∉ pathT N p := fun h => by rw [inL_iff.2 h] at hp; cases hp
  rw [move_deep G hs hp']
  constructor
  · rintro ⟨x, hx, h8⟩
    have hx2 : hasN (setN N s p) x = true := by rw [hasN_set]; exact mem_all.1 hx
    obtain ⟨k, hk, e⟩ := List.getElem_of_mem (parN_mem hx2)
    exact ⟨k, hk, by rw [e]; exact h8⟩
  · rintro ⟨k, hk, h8⟩
    refine ⟨((setN N s p)[k]'hk).1, mem_all.2 ?_, h8⟩
    rw [← hasN_set (s := s) (p := p)]
    exact hasN_iff.2 ⟨_, List.getElem_mem hk⟩
theorem set_depth {N : Nodes} (G : Good11 N) {s p : ByteArray} (hs : hasN N s = true) (hp : inL (pathT N p) s = false) (x : ByteArray) : (pathT (setN N s p) x).length < 19 := by
  have hp' : s ∉ pathT N p := fun h => by rw [inL_iff.2 h] at hp; cases hp
  rw [move_pathT G hs hp']
  have h1 := G.deep x
  have h2 := G.deep p
  split
  · rw [List.length_append, List.length_take]; omega
  · omega
end Go.Proofs.Ythaipgbjnigkhaa
namespace Go.Proofs.Ythaipgbjnigkhaa
open Go.RowKit Go.Shelf Go.Maps
set_option linter.unusedVariables false
set_option linter.unusedSimpArgs false
set_option linter.unusedSectionVars false
section
variable {base rp : Nat} {v : Value} {N : Nodes}
set_option maxRecDepth 100000 in
set_option maxHeartbeats 8000000 in
theorem rmoveT_calls (w : World) (h : RefT w base rp v N) (G : Good11 N) (s p : ByteArray) (r : Int) (M : Nodes) (hr : moveR N s p = (r, M)) :
    Calls Try.prog 60 #[.pointer (some ⟨rp, 0, none⟩), .string s, .string p] w fun e w' => e = .returned (.int .i64 r) ∧ ∃ u, RefT w' base rp u M ∧ Kept (fun q => q = rp) w w' := by
  have hB := Below.refl w.heap.size w
  have H := Lib.hid h
  have hl : N.length ≤ 1000000 := by have := G.few; omega
  have HD := Lib.hid (show ∀ x, (pathT N x).length < 19 from fun x => by have := G.deep x; omega)
  obtain ⟨ao, cap, rfl⟩ := h.form
  have C0 := Lib.hid (show w.cell? ⟨rp, 0, none⟩ = some (.slice ao N.length cap) from blk_cell h.box 0)
  have CF := Lib.hid (show w.frozen? ⟨rp, 0, none⟩ = false from blk_free h.box 0)
  clear h
  unfold moveR at hr
  cases h1 : hasN N s with
  | false =>
    rw [h1] at hr
    have H1 := Lib.hid h1
    clear h1
    obtain ⟨rfl, rfl⟩ : r = 4 ∧ M = N := by simpa [eq_comm] using hr
    clear hr
    go_enter Try.func60, Try.ntmps60
    go_wp2_with fail
    refine (rhasT_calls _ (H.out.below hB) s hl).mono ?_; rintro e w' ⟨rfl, hb⟩; rw [H1.out]; have hB := bl_next hB hb; clear hb
    go_wp2_with fail
    go_ret
    exact ⟨rfl, _, H.out.below hB, kept_of_below hB⟩
  | true =>
    rw [h1] at hr
    have H1 := Lib.hid h1
    cases h2 : hasN N p with
    | false =>
      rw [h2] at hr
      have H2 := Lib.hid h2
      clear h1 h2
      obtain ⟨rfl, rfl⟩ : r = 4 ∧ M = N := by simpa [eq_comm] using hr
      clear hr
      go_enter Try.func60, Try.ntmps60
      go_wp2_with fail
      refine (rhasT_calls _ (H.out.below hB) s hl).mono ?_; rintro e w' ⟨rfl, hb⟩; rw [H1.out]; have hB := bl_next hB hb; clear hb
      go_wp2_with fail
      refine (rhasT_calls _ (H.out.below hB) p hl).mono ?_; rintro e w' ⟨rfl, hb⟩; rw [H2.out]; have hB := bl_next hB hb; clear hb
      go_wp2_with fail
      go_ret
      exact ⟨rfl, _, H.out.below hB, kept_of_below hB⟩
    | true =>
      rw [h2] at hr
      have H2 := Lib.hid h2
      clear h1 h2
      simp only [Bool.not_true, Bool.or_self, Bool.false_eq_true, if_false] at hr
      by_cases hroot : s = rootB
      · rw [if_pos hroot] at hr
        obtain ⟨rfl, rfl⟩ : r = 1 ∧ M = N := by simpa [eq_comm] using hr
        clear hr
        have hrf : (s.toList == [114, 111, 111, 116]) = true := by rw [hroot, root_list]; rfl
        have hrn : s.toList = [114, 111, 111, 116] := by rw [hroot, root_list]
        clear hroot
        go_enter Try.func60, Try.ntmps60
        go_wp2_with fail
        refine (rhasT_calls _ (H.out.below hB) s hl).mono ?_; rintro e w' ⟨rfl, hb⟩; rw [H1.out]; have hB := bl_next hB hb; clear hb
        go_wp2_with fail
        refine (rhasT_calls _ (H.out.below hB) p hl).mono ?_; rintro e w' ⟨rfl, hb⟩; rw [H2.out]; have hB := bl_next hB hb; clear hb
        go_wp2_with fail
        go_ret
        exact ⟨rfl, _, H.out.below hB, kept_of_below hB⟩
      · rw [if_neg hroot] at hr
        obtain ⟨hrf, hrn⟩ := rootF hroot
        clear hroot
        cases h3 : inL (pathT N p) s with
        | true =>
          rw [h3] at hr
          have H3 := Lib.hid h3
          clear h3
          obtain ⟨rfl, rfl⟩ : r = 8 ∧ M = N := by simpa [eq_comm] using hr
          clear hr
          go_enter Try.func60, Try.ntmps60
          go_wp2_with fail
          refine (rhasT_calls _ (H.out.below hB) s hl).mono ?_; rintro e w' ⟨rfl, hb⟩; rw [H1.out]; have hB := bl_next hB hb; clear hb
          go_wp2_with fail
          refine (rhasT_calls _ (H.out.below hB) p hl).mono ?_; rintro e w' ⟨rfl, hb⟩; rw [H2.out]; have hB := bl_next hB hb; clear hb
          go_wp2_with fail
          refine (rpathT_calls _ (H.out.below hB) G.rise HD.out p hl).mono ?_; rintro e w' ⟨u, rfl, hrow, hb⟩; have HP := Lib.hid hrow; have hB := bl_next hB hb; clear hb hrow
          go_wp2_with fail
          refine (in_calls _ (strS_of HP.out) s (by have := HD.out p; omega)).mono ?_; rintro e w' ⟨rfl, hb⟩; rw [H3.out]; have hB := bl_next hB hb; clear hb
          go_wp2_with fail
          go_ret
          exact ⟨rfl, _, H.out.below hB, kept_of_below hB⟩
        | false =>
          rw [h3] at hr
          have H3 := Lib.hid h3
          have HF := Lib.hid (move_found G H1.out h3)
          have HSD := Lib.hid (set_depth G H1.out h3)
          clear h3
          go_enter Try.func60, Try.ntmps60
          go_wp2_with fail
          refine (rhasT_calls _ (H.out.below hB) s hl).mono ?_; rintro e w' ⟨rfl, hb⟩; rw [H1.out]; have hB := bl_next hB hb; clear hb
          go_wp2_with fail
          refine (rhasT_calls _ (H.out.below hB) p hl).mono ?_; rintro e w' ⟨rfl, hb⟩; rw [H2.out]; have hB := bl_next hB hb; clear hb
          go_wp2_with fail
          refine (rpathT_calls _ (H.out.below hB) G.rise HD.out p hl).mono ?_; rintro e w' ⟨u, rfl, hrow, hb⟩; have HP := Lib.hid hrow; have hB := bl_next hB hb; clear hb hrow
          go_wp2_with fail
          refine (in_calls _ (strS_of HP.out) s (by have := HD.out p; omega)).mono ?_; rintro e w5 ⟨rfl, hb⟩; rw [H3.out]; have hB := bl_next hB hb; clear hb HP
          go_wp2_with fail
          have hB6 : Below w.heap.size w (w5.alloc (.cells #[.slice none 0 0] 91)) := hB.alloc hB.size _
          have hnew : RefT (w5.alloc (.cells #[.slice none 0 0] 91)) w.heap.size w5.heap.size (.slice none 0 0) [] := ⟨blk_new _ _, World.ownsRow_nil _ _ _ _, hB.size⟩
          obtain ⟨nb, hnb⟩ : ∃ nb, nb = w5.heap.size := ⟨_, rfl⟩
          rw [← hnb] at hnew ⊢
          obtain ⟨V, hV⟩ : ∃ V, V = w5.alloc (.cells #[.slice none 0 0] 91) := ⟨_, rfl⟩
          rw [← hV] at hnew hB6 ⊢
          have R0 := Lib.hid hnew
          clear hnew hV hnb hB
          go_loopw [9] (fun i wr => ∃ (k : Nat) (u : Value), i = .int .i64 k ∧ k ≤ N.length ∧ Hid (RefT wr w.heap.size nb u (setTo N s p k)) ∧ Below w.heap.size w wr) (fun i _ => N.length - (intOf i).toNat)
          case atStart => exact ⟨0, _, rfl, Nat.zero_le _, R0, hB6⟩
          case round =>
            clear hB6 R0
            obtain ⟨k, u, rfl, hk, R, hB⟩ := hrel
            have c0 := cb hB C0.out
            by_cases hkl : k < N.length
            · have hkI : (k : Int) < N.length := by omega
              obtain ⟨g, c', he, c1, c2⟩ := (H.out.below hB).at' hkl
              cases he
              have HN := Lib.hid (setTo_succ (s := s) (p := p) hkl)
              obtain ⟨x, hx⟩ : ∃ x, N[k]'hkl = x := ⟨_, rfl⟩
              rw [hx] at c1 c2 HN
              clear hx
              by_cases h2 : x.1 = s
              · have hbf : (x.1.toList == s.toList) = true := by rw [beq_str]; simpa using h2
                have hbn : x.1.toList = s.toList := by rw [h2]
                have HN2 := Lib.hid (show setTo N s p (k + 1) = setTo N s p k ++ [(x.1, p)] from HN.out.trans (by simp [h2]))
                have hlen := setTo_len (N := N) (s := s) (p := p) (k := k) hk
                obtain ⟨fl, hfl⟩ : ∃ fl, setTo N s p k = fl := ⟨_, rfl⟩
                rw [hfl] at HN2 R hlen
                have HLEN := Lib.hid hlen
                clear hfl h2 HN hlen
                go_upto_region 15 with fail
                obtain ⟨au, cu, rfl⟩ := R.out.form
                have hw0 := R.out.below ((Below.refl wr.heap.size wr).alloc (Nat.le_refl _) (.cells #[.string x.1, .string p] 88))
                have hx0 := blk_new wr (.cells #[.string x.1, .string p] 88)
                have hBV := hB.alloc hB.size (.cells #[.string x.1, .string p] 88)
                have hown := fun k hk => (World.ownsRow.lt R.out.row k hk).2
                obtain ⟨xb, hxb⟩ : ∃ b, b = wr.heap.size := ⟨_, rfl⟩
                rw [← hxb] at hx0 hown ⊢
                obtain ⟨V1, hV1⟩ : ∃ V1, V1 = wr.alloc (.cells #[.string x.1, .string p] 88) := ⟨_, rfl⟩
                rw [← hV1] at hw0 hx0 hBV ⊢
                have HW0 := Lib.hid hw0; have HX0 := Lib.hid hx0; have HOWN := Lib.hid hown; have HBV := Lib.hid hBV
                have cf := blk_free hw0.box 0
                have CFN := Lib.hid cf
                clear hw0 hx0 hown hV1 hxb R hB hBV cf c0 c1 c2
                have sof := Lib.hid (show ∀ w', Below V1.heap.size V1 w' → (w'.cell? ⟨nb, 0, none⟩ = some (.slice au fl.length cu) ∧ w'.cell? ⟨xb, 0, none⟩ = some (.string x.1) ∧ w'.cell? ⟨xb, 1, none⟩ = some (.string p)) from fun w' hb => ⟨cb hb (blk_cell HW0.out.box 0), cb hb (blk_cell HX0.out 0), cb hb (blk_cell HX0.out 1)⟩)
                have hB1 := Lib.hid ((Below.refl V1.heap.size V1).drew)
                have hB2 := Lib.hid (show Below V1.heap.size V1 (V1.alloc (.cells #[.string x.1, .string p] 88)).drew from ((Below.refl V1.heap.size V1).alloc (Nat.le_refl _) _).drew)
                obtain ⟨i0, hi, hz0, hz1, hz2⟩ := info_parts info_node
                have HI := Lib.hid hi; have HZ0 := Lib.hid hz0; have HZ1 := Lib.hid hz1; have HZ2 := Lib.hid hz2
                clear hi hz0 hz1 hz2
                refine region_seqL (fun w' => w'.cell? ⟨nb, 0, none⟩ = some (.slice au fl.length cu) ∧ w'.cell? ⟨xb, 0, none⟩ = some (.string x.1) ∧ w'.cell? ⟨xb, 1, none⟩ = some (.string p)) 10 [(0, true), (1, true), (2, true), (3, true), (4, true), (5, true), (6, false), (7, false), (8, true), (9, true), (10, false)] (by kernel_rfl) (by kernel_rfl) (fun _ _ _ _ h => h) (by (try exact sof.out _ hB1.out); (try exact sof.out _ hB2.out)) ?_
                refine sl_take (v := ?_) (a' := ?_) (some 54) rfl rfl (by rfl) ?_ ?_ ?_
                rotate_left; rotate_left
                · intro w' hS; go_simp; with_reducible rfl
                · simp only [Act.put, List.setIfInBounds_toArray, List.set_cons_zero, List.set_cons_succ]; rfl
                refine sl_take (v := ?_) (a' := ?_) (some 55) rfl rfl (by rfl) ?_ ?_ ?_
                rotate_left; rotate_left
                · intro w' hS; go_simp; with_reducible rfl
                · simp only [Act.put, List.setIfInBounds_toArray, List.set_cons_zero, List.set_cons_succ]; rfl
                refine sl_take (v := ?_) (a' := ?_) (some 56) rfl rfl (by rfl) ?_ ?_ ?_
                rotate_left; rotate_left
                · intro w' hS; go_simp; with_reducible rfl
                · simp only [Act.put, List.setIfInBounds_toArray, List.set_cons_zero, List.set_cons_succ]; rfl
                refine sl_take (v := ?_) (a' := ?_) (some 57) rfl rfl (by rfl) ?_ ?_ ?_
                rotate_left; rotate_left
                · intro w' hS; go_simp; with_reducible rfl
                · simp only [Act.put, List.setIfInBounds_toArray, List.set_cons_zero, List.set_cons_succ]; rfl
                refine sl_take (v := ?_) (a' := ?_) (some 58) rfl rfl (by rfl) ?_ ?_ ?_
                rotate_left; rotate_left
                · intro w' hS; obtain ⟨q0, q1, q2⟩ := hS; go_simp; with_reducible rfl
                · simp only [Act.put, List.setIfInBounds_toArray, List.set_cons_zero, List.set_cons_succ]; rfl
                refine sl_take (v := ?_) (a' := ?_) (some 59) rfl rfl (by rfl) ?_ ?_ ?_
                rotate_left; rotate_left
                · intro w' hS; obtain ⟨q0, q1, q2⟩ := hS; go_simp; with_reducible rfl
                · simp only [Act.put, List.setIfInBounds_toArray, List.set_cons_zero, List.set_cons_succ]; rfl
                refine sl_op (some 60) rfl rfl (by rfl) ?_
                apply Exists.intro; apply Exists.intro; apply And.intro
                · go_simp; first | exact ⟨rfl, rfl⟩ | rfl
                apply Exists.intro; apply And.intro
                · simp only [Act.put, List.setIfInBounds_toArray, List.set_cons_zero, List.set_cons_succ]; rfl
                apply And.intro
                · (try exact sof.out _ hB1.out); (try exact sof.out _ hB2.out)
                refine sl_law rfl (by rfl) ?_
                refine app_rw_at (.tmp 58) (.tmp 60) _ rfl w.heap.size 88 i0 _ 2 32 Try.underlying89 HI.out HZ0.out HZ1.out HZ2.out rfl (by decide) (Value.slice au fl.length cu) fl.length (nodesC fl) [.string x.1, .string p] rfl (rw_below HW0.out.row hB2.out) V1.heap.size 1 rfl (blk_drew (blk_new V1 _)) rfl (by simp [Value.oneCell']) (by have := hB2.out.size; have := HBV.out.size; omega) (by have := HLEN.out; omega) (by decide) ?_
                intro g9 cap9 w1 hrow hk9 hat; have HK := Lib.hid hk9; have hrow' := (rw_below HW0.out.row hB2.out); have hboxD := blk_below HW0.out.box hB2.out; have nf : ¬ (Value.slice au fl.length cu).ownBlock = some nb := rw_other hrow' hboxD (by decide); have nw : ¬ (Value.slice au fl.length cu).ownBlock = some xb := fun e => Nat.lt_irrefl _ (HOWN.out xb e); have qs := sof.out _ hB2.out; have d0 := HK.out.cell qs.1 nf; have d1 := HK.out.cell qs.2.1 nw; have d2 := HK.out.cell qs.2.2 nw; have hbox1 := Lib.hid (HK.out.heap hboxD nf); have df := blk_free hbox1.out 0; have HROW := Lib.hid hrow; have hBW : Below w.heap.size w w1 := (HBV.out.trans (hB2.out.mono HBV.out.size)).trans (hk9.below (Nat.le_trans HBV.out.size hB2.out.size) (fun q hq => (rw_type hrow' hq).1)); clear nf nw qs hrow hk9 hrow' hboxD hat; refine ⟨.inr ⟨d0, d1, d2⟩, ?_⟩; clear d1 d2
                simp only [Act.put, List.setIfInBounds_toArray, List.set_cons_zero, List.set_cons_succ]
                refine sl_take (v := ?_) (a' := ?_) (some 62) rfl rfl (by rfl) ?_ ?_ ?_
                rotate_left; rotate_left
                · intro w' hS; go_simp; with_reducible rfl
                · simp only [Act.put, List.setIfInBounds_toArray, List.set_cons_zero, List.set_cons_succ]; rfl
                refine sl_take (v := ?_) (a' := ?_) (some 63) rfl rfl (by rfl) ?_ ?_ ?_
                rotate_left; rotate_left
                · intro w' hS; go_simp; with_reducible rfl
                · simp only [Act.put, List.setIfInBounds_toArray, List.set_cons_zero, List.set_cons_succ]; rfl
                refine sl_last none rfl rfl (by rfl) ?_
                apply Exists.intro; apply And.intro
                · go_simp; first | exact ⟨rfl, rfl⟩ | rfl
                apply Exists.intro; apply And.intro
                · simp only [Act.put, List.setIfInBounds_toArray, List.set_cons_zero, List.set_cons_succ]; rfl
                refine sl_done ?_
                go_wp2_with fail
                go_roundw
                case rel =>
                  have hrw := HROW.out
                  rw [nodesC_app fl (x.1, p)] at hrw
                  refine ⟨k + 1, .slice (some ⟨g9, 0, none⟩) (fl.length + 1) cap9, by simp, by omega, Lib.hid ?_, hBW.setCell (by have := HW0.out.bas; exact this) _⟩
                  rw [HN2.out]
                  exact ⟨heap_setCell_same _ nb 0 _ _ _ hbox1.out, rw_kept (by rw [List.length_append]; exact hrw) (X := fun q => q = nb) ((Kept.refl _ _).setCell _ _ (.inl rfl)) (fun q hq e => rw_other hrw hbox1.out (by decide) (by rw [← e]; exact hq)), HW0.out.bas⟩
                case measure => simp [intOf]; omega
              · have hbf := beqF h2
                have hbn := neF h2
                have HN2 := Lib.hid (show setTo N s p (k + 1) = setTo N s p k ++ [x] from HN.out.trans (by simp [h2]))
                have hlen := setTo_len (N := N) (s := s) (p := p) (k := k) hk
                obtain ⟨fl, hfl⟩ : ∃ fl, setTo N s p k = fl := ⟨_, rfl⟩
                rw [hfl] at HN2 R hlen
                have HLEN := Lib.hid hlen
                clear hfl h2 HN hlen
                go_upto_region 15 with fail
                obtain ⟨au, cu, rfl⟩ := R.out.form
                have hw0 := R.out.below ((Below.refl wr.heap.size wr).alloc (Nat.le_refl _) (.cells #[.string x.1, .string x.2] 88))
                have hx0 := blk_new wr (.cells #[.string x.1, .string x.2] 88)
                have hBV := hB.alloc hB.size (.cells #[.string x.1, .string x.2] 88)
                have hown := fun k hk => (World.ownsRow.lt R.out.row k hk).2
                obtain ⟨xb, hxb⟩ : ∃ b, b = wr.heap.size := ⟨_, rfl⟩
                rw [← hxb] at hx0 hown ⊢
                obtain ⟨V1, hV1⟩ : ∃ V1, V1 = wr.alloc (.cells #[.string x.1, .string x.2] 88) := ⟨_, rfl⟩
                rw [← hV1] at hw0 hx0 hBV ⊢
                have HW0 := Lib.hid hw0; have HX0 := Lib.hid hx0; have HOWN := Lib.hid hown; have HBV := Lib.hid hBV
                have cf := blk_free hw0.box 0
                have CFN := Lib.hid cf
                clear hw0 hx0 hown hV1 hxb R hB hBV cf c0 c1 c2
                have sof := Lib.hid (show ∀ w', Below V1.heap.size V1 w' → (w'.cell? ⟨nb, 0, none⟩ = some (.slice au fl.length cu) ∧ w'.cell? ⟨xb, 0, none⟩ = some (.string x.1) ∧ w'.cell? ⟨xb, 1, none⟩ = some (.string x.2)) from fun w' hb => ⟨cb hb (blk_cell HW0.out.box 0), cb hb (blk_cell HX0.out 0), cb hb (blk_cell HX0.out 1)⟩)
                have hB1 := Lib.hid ((Below.refl V1.heap.size V1).drew)
                have hB2 := Lib.hid (show Below V1.heap.size V1 (V1.alloc (.cells #[.string x.1, .string x.2] 88)).drew from ((Below.refl V1.heap.size V1).alloc (Nat.le_refl _) _).drew)
                obtain ⟨i0, hi, hz0, hz1, hz2⟩ := info_parts info_node
                have HI := Lib.hid hi; have HZ0 := Lib.hid hz0; have HZ1 := Lib.hid hz1; have HZ2 := Lib.hid hz2
                clear hi hz0 hz1 hz2
                refine region_seqL (fun w' => w'.cell? ⟨nb, 0, none⟩ = some (.slice au fl.length cu) ∧ w'.cell? ⟨xb, 0, none⟩ = some (.string x.1) ∧ w'.cell? ⟨xb, 1, none⟩ = some (.string x.2)) 10 [(0, true), (1, true), (2, true), (3, true), (4, true), (5, true), (6, false), (7, false), (8, true), (9, true), (10, false)] (by kernel_rfl) (by kernel_rfl) (fun _ _ _ _ h => h) (by (try exact sof.out _ hB1.out); (try exact sof.out _ hB2.out)) ?_
                refine sl_take (v := ?_) (a' := ?_) (some 54) rfl rfl (by rfl) ?_ ?_ ?_
                rotate_left; rotate_left
                · intro w' hS; go_simp; with_reducible rfl
                · simp only [Act.put, List.setIfInBounds_toArray, List.set_cons_zero, List.set_cons_succ]; rfl
                refine sl_take (v := ?_) (a' := ?_) (some 55) rfl rfl (by rfl) ?_ ?_ ?_
                rotate_left; rotate_left
                · intro w' hS; go_simp; with_reducible rfl
                · simp only [Act.put, List.setIfInBounds_toArray, List.set_cons_zero, List.set_cons_succ]; rfl
                refine sl_take (v := ?_) (a' := ?_) (some 56) rfl rfl (by rfl) ?_ ?_ ?_
                rotate_left; rotate_left
                · intro w' hS; go_simp; with_reducible rfl
                · simp only [Act.put, List.setIfInBounds_toArray, List.set_cons_zero, List.set_cons_succ]; rfl
                refine sl_take (v := ?_) (a' := ?_) (some 57) rfl rfl (by rfl) ?_ ?_ ?_
                rotate_left; rotate_left
                · intro w' hS; go_simp; with_reducible rfl
                · simp only [Act.put, List.setIfInBounds_toArray, List.set_cons_zero, List.set_cons_succ]; rfl
                refine sl_take (v := ?_) (a' := ?_) (some 58) rfl rfl (by rfl) ?_ ?_ ?_
                rotate_left; rotate_left
                · intro w' hS; obtain ⟨q0, q1, q2⟩ := hS; go_simp; with_reducible rfl
                · simp only [Act.put, List.setIfInBounds_toArray, List.set_cons_zero, List.set_cons_succ]; rfl
                refine sl_take (v := ?_) (a' := ?_) (some 59) rfl rfl (by rfl) ?_ ?_ ?_
                rotate_left; rotate_left
                · intro w' hS; obtain ⟨q0, q1, q2⟩ := hS; go_simp; with_reducible rfl
                · simp only [Act.put, List.setIfInBounds_toArray, List.set_cons_zero, List.set_cons_succ]; rfl
                refine sl_op (some 60) rfl rfl (by rfl) ?_
                apply Exists.intro; apply Exists.intro; apply And.intro
                · go_simp; first | exact ⟨rfl, rfl⟩ | rfl
                apply Exists.intro; apply And.intro
                · simp only [Act.put, List.setIfInBounds_toArray, List.set_cons_zero, List.set_cons_succ]; rfl
                apply And.intro
                · (try exact sof.out _ hB1.out); (try exact sof.out _ hB2.out)
                refine sl_law rfl (by rfl) ?_
                refine app_rw_at (.tmp 58) (.tmp 60) _ rfl w.heap.size 88 i0 _ 2 32 Try.underlying89 HI.out HZ0.out HZ1.out HZ2.out rfl (by decide) (Value.slice au fl.length cu) fl.length (nodesC fl) [.string x.1, .string x.2] rfl (rw_below HW0.out.row hB2.out) V1.heap.size 1 rfl (blk_drew (blk_new V1 _)) rfl (by simp [Value.oneCell']) (by have := hB2.out.size; have := HBV.out.size; omega) (by have := HLEN.out; omega) (by decide) ?_
                intro g9 cap9 w1 hrow hk9 hat; have HK := Lib.hid hk9; have hrow' := (rw_below HW0.out.row hB2.out); have hboxD := blk_below HW0.out.box hB2.out; have nf : ¬ (Value.slice au fl.length cu).ownBlock = some nb := rw_other hrow' hboxD (by decide); have nw : ¬ (Value.slice au fl.length cu).ownBlock = some xb := fun e => Nat.lt_irrefl _ (HOWN.out xb e); have qs := sof.out _ hB2.out; have d0 := HK.out.cell qs.1 nf; have d1 := HK.out.cell qs.2.1 nw; have d2 := HK.out.cell qs.2.2 nw; have hbox1 := Lib.hid (HK.out.heap hboxD nf); have df := blk_free hbox1.out 0; have HROW := Lib.hid hrow; have hBW : Below w.heap.size w w1 := (HBV.out.trans (hB2.out.mono HBV.out.size)).trans (hk9.below (Nat.le_trans HBV.out.size hB2.out.size) (fun q hq => (rw_type hrow' hq).1)); clear nf nw qs hrow hk9 hrow' hboxD hat; refine ⟨.inr ⟨d0, d1, d2⟩, ?_⟩; clear d1 d2
                simp only [Act.put, List.setIfInBounds_toArray, List.set_cons_zero, List.set_cons_succ]
                refine sl_take (v := ?_) (a' := ?_) (some 62) rfl rfl (by rfl) ?_ ?_ ?_
                rotate_left; rotate_left
                · intro w' hS; go_simp; with_reducible rfl
                · simp only [Act.put, List.setIfInBounds_toArray, List.set_cons_zero, List.set_cons_succ]; rfl
                refine sl_take (v := ?_) (a' := ?_) (some 63) rfl rfl (by rfl) ?_ ?_ ?_
                rotate_left; rotate_left
                · intro w' hS; go_simp; with_reducible rfl
                · simp only [Act.put, List.setIfInBounds_toArray, List.set_cons_zero, List.set_cons_succ]; rfl
                refine sl_last none rfl rfl (by rfl) ?_
                apply Exists.intro; apply And.intro
                · go_simp; first | exact ⟨rfl, rfl⟩ | rfl
                apply Exists.intro; apply And.intro
                · simp only [Act.put, List.setIfInBounds_toArray, List.set_cons_zero, List.set_cons_succ]; rfl
                refine sl_done ?_
                go_wp2_with fail
                go_roundw
                case rel =>
                  have hrw := HROW.out
                  rw [nodesC_app fl x] at hrw
                  refine ⟨k + 1, .slice (some ⟨g9, 0, none⟩) (fl.length + 1) cap9, by simp, by omega, Lib.hid ?_, hBW.setCell (by have := HW0.out.bas; exact this) _⟩
                  rw [HN2.out]
                  exact ⟨heap_setCell_same _ nb 0 _ _ _ hbox1.out, rw_kept (by rw [List.length_append]; exact hrw) (X := fun q => q = nb) ((Kept.refl _ _).setCell _ _ (.inl rfl)) (fun q hq e => rw_other hrw hbox1.out (by decide) (by rw [← e]; exact hq)), HW0.out.bas⟩
                case measure => simp [intOf]; omega
            · obtain rfl : k = N.length := by omega
              have hR := R.out
              rw [setTo_all] at hR
              obtain ⟨L, hL⟩ : ∃ L, setN N s p = L := ⟨_, rfl⟩
              have hLn : L.length = N.length := by rw [← hL]; exact setN_length _ _ _
              have hLl : L.length ≤ 1000000 := by omega
              have hRise : Rising L := by rw [← hL]; exact rising_setN G.rise
              have HF2 := HF.out
              have HSD2 := HSD.out
              rw [hL] at hR HF2 HSD2 hr
              have HFL := Lib.hid HF2; have HDL := Lib.hid HSD2; have HR0 := Lib.hid hR; have HLN := Lib.hid hLn; have HRISE := Lib.hid hRise
              clear hR HF2 HSD2 hL hLn HF HSD R hRise
              obtain ⟨au, cu, rfl⟩ := HR0.out.form
              obtain ⟨V2, rfl⟩ : ∃ V2 : World, V2 = wr := ⟨_, rfl⟩
              have HB0 := Lib.hid hB
              have n0 := blk_cell HR0.out.box 0
              have N0 := Lib.hid (show V2.cell? ⟨nb, 0, none⟩ = some (.slice au L.length cu) from n0)
              clear hB n0
              have hB := Below.refl V2.heap.size V2
              go_wp2_with fail
              go_loopw [11] (fun i wr => ∃ j : Nat, i = .int .i64 j ∧ j ≤ L.length ∧ Hid (∀ q (hq : q < L.length), q < j → (pathT L (L[q]'hq).1).length ≤ 8) ∧ Below V2.heap.size V2 wr) (fun i _ => L.length - (intOf i).toNat)
              case atStart => exact ⟨0, rfl, Nat.zero_le _, Lib.hid (fun q hq h => absurd h (Nat.not_lt_zero _)), hB⟩
              case round =>
                clear hB
                obtain ⟨j, rfl, hj, HALL, hB⟩ := hrel
                have n0 := cb hB N0.out
                by_cases hjl : j < L.length
                · have hjI : (j : Int) < L.length := by omega
                  obtain ⟨g1, c1', he, c1, c2⟩ := (HR0.out.below hB).at' hjl
                  cases he
                  obtain ⟨pl, hpl⟩ : ∃ l, pathT L (L[j]'hjl).1 = l := ⟨_, rfl⟩
                  have HPL := Lib.hid hpl
                  have hpl19 : pl.length < 19 := by rw [← hpl]; exact HDL.out _
                  clear hpl
                  go_wp2_with fail
                  refine (rpathT_calls _ (HR0.out.below hB) HRISE.out HDL.out _ hLl).mono ?_
                  rintro e w7 ⟨v7, rfl, hrow, hb⟩
                  rw [HPL.out] at hrow
                  obtain ⟨a7, c7, rfl⟩ := rw_form hrow
                  have hB := bl_next hB hb
                  clear hrow hb c1 c2 n0
                  by_cases h8 : 8 < pl.length
                  · have h8I : (8 : Int) < pl.length := by omega
                    have hbad : 8 < (pathT N p).length + deepN N s := HFL.out.2 ⟨j, hjl, by rw [HPL.out]; exact h8⟩
                    rw [if_neg (by simp), if_pos hbad] at hr
                    have HRR := Lib.hid hr
                    clear hbad hr
                    go_wp2_with fail
                    go_ret
                    have hr := HRR.out
                    cases hr
                    have hBw := bl_from HB0.out hB
                    exact ⟨rfl, _, H.out.below hBw, kept_of_below hBw⟩
                  · have h8I : (pl.length : Int) ≤ 8 := by omega
                    have H8 := Lib.hid (show pl.length ≤ 8 by omega)
                    clear h8
                    go_wp2_with fail
                    go_roundw
                    case rel =>
                      refine ⟨j + 1, by simp, by omega, Lib.hid (fun q hq h => ?_), hB⟩
                      rcases Nat.lt_or_ge q j with k9 | k9
                      · exact HALL.out q hq k9
                      · obtain rfl : q = j := by omega
                        rw [HPL.out]; exact H8.out
                    case measure => simp [intOf]; omega
                · obtain rfl : j = L.length := by omega
                  have hgood : ¬ 8 < (pathT N p).length + deepN N s := fun hb => by
                    obtain ⟨q, hq, h9⟩ := HFL.out.1 hb
                    have := HALL.out q hq hq
                    omega
                  rw [if_neg (by simp), if_neg hgood] at hr
                  have HRR := Lib.hid hr
                  clear hgood hr
                  have hBw := bl_from HB0.out hB
                  have c0 := cb hBw C0.out
                  have cf := fzb hBw (lt_of_cell C0.out) CF.out
                  go_wp2_with fail
                  go_ret
                  have hr := HRR.out
                  cases hr
                  obtain ⟨q1, q2⟩ := refT_store H.out hBw ((HR0.out.below hB).row)
                  exact ⟨rfl, _, q1, q2⟩
end
end Go.Proofs.Ythaipgbjnigkhaa

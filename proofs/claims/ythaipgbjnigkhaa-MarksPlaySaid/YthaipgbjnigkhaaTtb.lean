import Derived.Test.YthaipgbjnigkhaaTta
namespace Go.Proofs.Ythaipgbjnigkhaa
open Go.RowKit Go.Shelf Go.Maps
set_option linter.unusedVariables false
set_option linter.unusedSimpArgs false
set_option linter.unusedSectionVars false
theorem rootF {x : ByteArray} (h : ¬ x = rootB) : (x.toList == [114, 111, 111, 116]) = false ∧ ¬ x.toList = [114, 111, 111, 116] := by
  have h1 := beqF h; have h2 := neF h
  rw [root_list] at h1 h2
  exact ⟨h1, h2⟩
def chTo (N : Nodes) (s : ByteArray) (k : Nat) : List ByteArray := ((N.take k).filter fun p => !decide (p.1 = rootB) && decide (p.2 = s)).map (·.1)
theorem chTo_succ (N : Nodes) (s : ByteArray) (k : Nat) (h : k < N.length) : chTo N s (k + 1) = if (!decide ((N[k]'h).1 = rootB) && decide ((N[k]'h).2 = s)) then chTo N s k ++ [(N[k]'h).1] else chTo N s k := by
  unfold chTo
  rw [List.take_succ_eq_append_getElem h, List.filter_append, List.map_append]
  cases q : (!decide ((N[k]'h).1 = rootB) && decide ((N[k]'h).2 = s)) <;> simp [q]
theorem chTo_all (N : Nodes) (s : ByteArray) : chTo N s N.length = childN N s := by unfold chTo childN; rw [List.take_length]
theorem chTo_len (N : Nodes) (s : ByteArray) (k : Nat) : (chTo N s k).length ≤ k := by
  unfold chTo; rw [List.length_map]; exact Nat.le_trans (List.length_filter_le _ _) (by rw [List.length_take]; exact Nat.min_le_left _ _)
theorem allN_at {N : Nodes} {k : Nat} (h : k < N.length) : (allN N)[k]'(by simpa [allN] using h) = (N[k]'h).1 := by simp [allN]
section
variable {base rp : Nat} {v : Value} {N : Nodes}
set_option maxRecDepth 100000 in
set_option maxHeartbeats 4000000 in
theorem rpathT_calls (w : World) (h : RefT w base rp v N) (hR : Rising N) (hd : ∀ s, (pathT N s).length < 19) (s : ByteArray) (hl : N.length ≤ 1000000) :
    Calls Try.prog 20 #[.pointer (some ⟨rp, 0, none⟩), .string s] w fun e w' => ∃ u, e = .returned u ∧ w'.ownsRow w.heap.size 9 1 u (pathT N s).length (strC (pathT N s)) ∧ Below w.heap.size w w' := by
  have hB := Below.refl w.heap.size w
  have H := Lib.hid h
  have HD := Lib.hid hd
  clear h hd
  go_enter Try.func20, Try.ntmps20
  go_wp2_with fail
  go_loopw [5, 6] (fun s5 s6 wr => ∃ (u : Value) (l : List ByteArray) (y : ByteArray), (s5 = u ∧ s6 = .string y) ∧ Hid (l ++ pathT N y = pathT N s) ∧ Hid (wr.ownsRow w.heap.size 9 1 u l.length (strC l)) ∧ Below w.heap.size w wr) (fun _ s6 _ => lenS N s6)
  case atStart => exact ⟨_, [], s, ⟨rfl, rfl⟩, Lib.hid rfl, Lib.hid (World.ownsRow_nil _ _ _ _), hB⟩
  case round =>
    clear hB
    obtain ⟨u, l, y, ⟨rfl, rfl⟩, HE, HROW, hB⟩ := hrel
    have hll : l.length ≤ 19 := by
      have h1 := congrArg List.length HE.out
      rw [List.length_append] at h1
      have h2 := HD.out s
      omega
    cases hy : hasN N y with
    | false =>
      have HH := Lib.hid hy
      have HF := Lib.hid (show l = pathT N s by rw [← HE.out, show pathT N y = [] from pathN_head hy, List.append_nil])
      clear hy HE
      go_wp2_with (go_at_call 26; refine (rhasT_calls _ (H.out.below hB) y hl).mono ?_; rintro e w' ⟨rfl, hb⟩; rw [HH.out]; have hB2 := bl_next hB hb; have HROW2 := Lib.hid (rw_below HROW.out hb); clear hb)
      go_ret
      exact ⟨_, rfl, by rw [← HF.out]; exact HROW2.out, hB2⟩
    | true =>
      have HH := Lib.hid hy
      have hp := pathT_of HD.out y
      rw [if_pos hy] at hp
      have HP := Lib.hid hp
      clear hy hp
      go_wp2_with fail
      refine (rhasT_calls _ (H.out.below hB) y hl).mono ?_
      rintro e w2 ⟨rfl, hb⟩
      rw [HH.out]
      have hB2 := bl_next hB hb
      have HROW2 := Lib.hid (rw_below HROW.out hb)
      have hbz := hB2.size
      clear hb HROW hB
      go_wp2_with (at_builtin; refine app_str rfl (.tmp 11) (.tmp 13) rfl w.heap.size 9 _ l y rfl HROW2.out 1 rfl hbz (by omega) ?_; intro g2 cap2 w5 hown hk4 hat; have HR3 := Lib.hid hown; have hB3 : Below w.heap.size w w5 := hB2.trans (hk4.below hB2.size (fun q hq => (rw_type HROW2.out hq).1)); clear hown hk4 hat HROW2 hB2 hbz)
      refine (rparT_calls _ (H.out.below hB3) hR y hl).mono ?_
      rintro e w6 ⟨rfl, hb⟩
      have hB4 := bl_next hB3 hb
      have HR4 := Lib.hid (rw_below HR3.out hb)
      clear hb HR3 hB3
      go_wp2_with fail
      go_roundw
      case rel => exact ⟨_, l ++ [y], parN N y, ⟨by simp, rfl⟩, Lib.hid (by rw [← HE.out, HP.out]; simp), HR4, hB4⟩
      case measure => simp only [lenS]; rw [HP.out]; simp
set_option maxRecDepth 100000 in
set_option maxHeartbeats 4000000 in
theorem rallT_calls (w : World) (h : RefT w base rp v N) (hl : N.length ≤ 1000000) :
    Calls Try.prog 18 #[.pointer (some ⟨rp, 0, none⟩)] w fun e w' => ∃ u, e = .returned u ∧ w'.ownsRow w.heap.size 9 1 u (allN N).length (strC (allN N)) ∧ Below w.heap.size w w' := by
  have hB := Below.refl w.heap.size w
  have H := Lib.hid h
  obtain ⟨ao, cap, rfl⟩ := h.form
  have C0 := Lib.hid (show w.cell? ⟨rp, 0, none⟩ = some (.slice ao N.length cap) from blk_cell h.box 0)
  clear h
  go_enter Try.func18, Try.ntmps18
  go_wp2_with fail
  go_loopw [3, 4] (fun s3 i wr => ∃ (k : Nat) (u : Value), (i = .int .i64 k ∧ s3 = u) ∧ k ≤ N.length ∧ Hid (wr.ownsRow w.heap.size 9 1 u (filTo (fun _ => true) (allN N) k).length (strC (filTo (fun _ => true) (allN N) k))) ∧ Below w.heap.size w wr) (fun _ i _ => N.length - (intOf i).toNat)
  case atStart => exact ⟨0, _, ⟨rfl, rfl⟩, Nat.zero_le _, Lib.hid (World.ownsRow_nil _ _ _ _), hB⟩
  case round =>
    clear hB
    obtain ⟨k, u, ⟨rfl, rfl⟩, hk, HROW, hB⟩ := hrel
    have c0 := cb hB C0.out
    by_cases hkl : k < N.length
    · have hkI : (k : Int) < N.length := by omega
      obtain ⟨g, c', he, c1, c2⟩ := (H.out.below hB).at' hkl
      cases he
      have HN := Lib.hid (filTo_succ (fun _ => true) (allN N) k (by simpa [allN] using hkl))
      rw [allN_at hkl] at HN
      obtain ⟨x, hx⟩ : ∃ x, N[k]'hkl = x := ⟨_, rfl⟩
      rw [hx] at c1 c2 HN
      have hlen := filTo_len (fun _ => true) (allN N) k
      obtain ⟨fl, hfl⟩ : ∃ fl, filTo (fun _ => true) (allN N) k = fl := ⟨_, rfl⟩
      rw [hfl] at HN HROW hlen
      have hbz := hB.size
      have HN2 := Lib.hid (show filTo (fun _ => true) (allN N) (k + 1) = fl ++ [x.1] by rw [HN.out]; rfl)
      clear hx hfl HN
      go_wp2_with (at_builtin; refine app_str rfl (.tmp 14) (.tmp 23) rfl w.heap.size 9 _ fl x.1 rfl HROW.out 1 rfl hbz (by omega) ?_; intro g2 cap2 w5 hown hk4 hat; have HR3 := Lib.hid hown; have hB3 : Below w.heap.size w w5 := hB.trans (hk4.below hB.size (fun q hq => (rw_type HROW.out hq).1)); clear hown hk4 hat)
      go_roundw
      case rel => exact ⟨k + 1, _, ⟨by simp, rfl⟩, by omega, Lib.hid (by rw [HN2.out]; exact HR3.out), hB3⟩
      case measure => simp [intOf]; omega
    · obtain rfl : k = N.length := by omega
      go_wp2
      go_ret
      refine ⟨_, rfl, ?_, hB⟩
      have e1 : filTo (fun _ => true) (allN N) N.length = allN N := by
        have := filTo_all (fun _ => true) (allN N)
        rw [show (allN N).length = N.length by simp [allN]] at this
        rw [this]; simp
      have := HROW.out
      rw [e1] at this; exact this
set_option maxRecDepth 100000 in
set_option maxHeartbeats 4000000 in
theorem rchildT_calls (w : World) (h : RefT w base rp v N) (s : ByteArray) (hl : N.length ≤ 1000000) :
    Calls Try.prog 22 #[.pointer (some ⟨rp, 0, none⟩), .string s] w fun e w' => ∃ u, e = .returned u ∧ w'.ownsRow w.heap.size 9 1 u (childN N s).length (strC (childN N s)) ∧ Below w.heap.size w w' := by
  have hB := Below.refl w.heap.size w
  have H := Lib.hid h
  obtain ⟨ao, cap, rfl⟩ := h.form
  have C0 := Lib.hid (show w.cell? ⟨rp, 0, none⟩ = some (.slice ao N.length cap) from blk_cell h.box 0)
  clear h
  go_enter Try.func22, Try.ntmps22
  go_wp2_with fail
  go_loopw [5, 6] (fun s5 i wr => ∃ (k : Nat) (u : Value), (i = .int .i64 k ∧ s5 = u) ∧ k ≤ N.length ∧ Hid (wr.ownsRow w.heap.size 9 1 u (chTo N s k).length (strC (chTo N s k))) ∧ Below w.heap.size w wr) (fun _ i _ => N.length - (intOf i).toNat)
  case atStart => exact ⟨0, _, ⟨rfl, rfl⟩, Nat.zero_le _, Lib.hid (World.ownsRow_nil _ _ _ _), hB⟩
  case round =>
    clear hB
    obtain ⟨k, u, ⟨rfl, rfl⟩, hk, HROW, hB⟩ := hrel
    have c0 := cb hB C0.out
    by_cases hkl : k < N.length
    · have hkI : (k : Int) < N.length := by omega
      obtain ⟨g, c', he, c1, c2⟩ := (H.out.below hB).at' hkl
      cases he
      have HN := Lib.hid (chTo_succ N s k hkl)
      obtain ⟨x, hx⟩ : ∃ x, N[k]'hkl = x := ⟨_, rfl⟩
      rw [hx] at c1 c2 HN
      have hlen := chTo_len N s k
      obtain ⟨fl, hfl⟩ : ∃ fl, chTo N s k = fl := ⟨_, rfl⟩
      rw [hfl] at HN HROW hlen
      have hbz := hB.size
      clear hx hfl
      by_cases h2 : x.2 = s
      · have hbf : (x.2.toList == s.toList) = true := by rw [beq_str]; simpa using h2
        have hbn : x.2.toList = s.toList := by rw [h2]
        by_cases h1 : x.1 = rootB
        · have hrf : (x.1.toList == [114, 111, 111, 116]) = true := by rw [h1, root_list]; rfl
          have hrn : x.1.toList = [114, 111, 111, 116] := by rw [h1, root_list]
          have HN2 := Lib.hid (show chTo N s (k + 1) = fl by rw [HN.out, h1]; simp)
          clear h1 h2 HN
          go_wp2_with fail
          go_roundw
          case rel => exact ⟨k + 1, _, ⟨by simp, rfl⟩, by omega, Lib.hid (by rw [HN2.out]; exact HROW.out), hB⟩
          case measure => simp [intOf]; omega
        · obtain ⟨hrf, hrn⟩ := rootF h1
          have HN2 := Lib.hid (show chTo N s (k + 1) = fl ++ [x.1] by rw [HN.out]; simp [h1, h2])
          clear h1 h2 HN
          go_wp2_with (at_builtin; refine app_str rfl (.tmp 37) (.tmp 46) rfl w.heap.size 9 _ fl x.1 rfl HROW.out 1 rfl hbz (by omega) ?_; intro g2 cap2 w5 hown hk4 hat; have HR3 := Lib.hid hown; have hB3 : Below w.heap.size w w5 := hB.trans (hk4.below hB.size (fun q hq => (rw_type HROW.out hq).1)); clear hown hk4 hat)
          go_roundw
          case rel => exact ⟨k + 1, _, ⟨by simp, rfl⟩, by omega, Lib.hid (by rw [HN2.out]; exact HR3.out), hB3⟩
          case measure => simp [intOf]; omega
      · have hbf := beqF h2
        have hbn := neF h2
        have HN2 := Lib.hid (show chTo N s (k + 1) = fl by rw [HN.out]; simp [h2])
        clear h2 HN
        go_wp2_with fail
        go_roundw
        case rel => exact ⟨k + 1, _, ⟨by simp, rfl⟩, by omega, Lib.hid (by rw [HN2.out]; exact HROW.out), hB⟩
        case measure => simp [intOf]; omega
    · obtain rfl : k = N.length := by omega
      go_wp2
      go_ret
      refine ⟨_, rfl, ?_, hB⟩
      have := HROW.out
      rw [chTo_all] at this; exact this
set_option maxRecDepth 100000 in
set_option maxHeartbeats 4000000 in
theorem rbelowT_calls (w : World) (h : RefT w base rp v N) (hR : Rising N) (hd : ∀ s, (pathT N s).length < 19) (s : ByteArray) (hl : N.length ≤ 1000000) :
    Calls Try.prog 24 #[.pointer (some ⟨rp, 0, none⟩), .string s] w fun e w' => ∃ u, e = .returned u ∧ w'.ownsRow w.heap.size 9 1 u (belowN N s).length (strC (belowN N s)) ∧ Below w.heap.size w w' := by
  have hB := Below.refl w.heap.size w
  have H := Lib.hid h
  have HD := Lib.hid hd
  obtain ⟨ao, cap, rfl⟩ := h.form
  have C0 := Lib.hid (show w.cell? ⟨rp, 0, none⟩ = some (.slice ao N.length cap) from blk_cell h.box 0)
  clear h hd
  go_enter Try.func24, Try.ntmps24
  go_wp2_with fail
  go_loopw [5, 6] (fun s5 i wr => ∃ (k : Nat) (u : Value), (i = .int .i64 k ∧ s5 = u) ∧ k ≤ N.length ∧ Hid (wr.ownsRow w.heap.size 9 1 u (filTo (fun x => inL (pathT N x) s) (allN N) k).length (strC (filTo (fun x => inL (pathT N x) s) (allN N) k))) ∧ Below w.heap.size w wr) (fun _ i _ => N.length - (intOf i).toNat)
  case atStart => exact ⟨0, _, ⟨rfl, rfl⟩, Nat.zero_le _, Lib.hid (World.ownsRow_nil _ _ _ _), hB⟩
  case round =>
    clear hB
    obtain ⟨k, u, ⟨rfl, rfl⟩, hk, HROW, hB⟩ := hrel
    have c0 := cb hB C0.out
    by_cases hkl : k < N.length
    · have hkI : (k : Int) < N.length := by omega
      obtain ⟨g, c', he, c1, c2⟩ := (H.out.below hB).at' hkl
      cases he
      have HN := Lib.hid (filTo_succ (fun x => inL (pathT N x) s) (allN N) k (by simpa [allN] using hkl))
      rw [allN_at hkl] at HN
      obtain ⟨x, hx⟩ : ∃ x, N[k]'hkl = x := ⟨_, rfl⟩
      rw [hx] at c1 c2 HN
      have hlen := filTo_len (fun x => inL (pathT N x) s) (allN N) k
      obtain ⟨fl, hfl⟩ : ∃ fl, filTo (fun x => inL (pathT N x) s) (allN N) k = fl := ⟨_, rfl⟩
      rw [hfl] at HN HROW hlen
      obtain ⟨pv, hpv⟩ : ∃ pv, inL (pathT N x.1) s = pv := ⟨_, rfl⟩
      have HN2 := Lib.hid (show filTo (fun x => inL (pathT N x) s) (allN N) (k + 1) = if pv then fl ++ [x.1] else fl by rw [HN.out, hpv])
      have HPV := Lib.hid hpv
      have HX := Lib.hid hx
      clear hx hfl HN hpv
      go_wp2_with fail
      refine (rpathT_calls _ (H.out.below hB) hR HD.out x.1 hl).mono ?_
      rintro e w2 ⟨v2, rfl, hrow, hb⟩
      have hB2 := bl_next hB hb
      have HP := Lib.hid hrow
      have HROW2 := Lib.hid (rw_below HROW.out hb)
      clear hrow hb hB HROW c0 c1 c2
      go_wp2_with fail
      refine (in_calls _ (strS_of HP.out) s (by have := HD.out x.1; omega)).mono ?_
      rintro e w3 ⟨rfl, hb⟩
      rw [HPV.out]
      have hB3 := bl_next hB2 hb
      have HROW3 := Lib.hid (rw_below HROW2.out hb)
      clear hb hB2 HROW2 HP
      have hbz := hB3.size
      have c0 := cb hB3 C0.out
      obtain ⟨g', c', he, c1, c2⟩ := (H.out.below hB3).at' hkl
      cases he
      rw [HX.out] at c1 c2
      cases pv with
      | false =>
        go_wp2_with fail
        go_roundw
        case rel => exact ⟨k + 1, _, ⟨by simp, rfl⟩, by omega, Lib.hid (by rw [HN2.out]; exact HROW3.out), hB3⟩
        case measure => simp [intOf]; omega
      | true =>
        go_wp2_with (at_builtin; refine app_str rfl (.tmp 30) (.tmp 39) rfl w.heap.size 9 _ fl _ rfl HROW3.out 1 rfl hbz (by omega) ?_; intro g2 cap2 w5 hown hk4 hat; have HR3 := Lib.hid hown; have hB4 : Below w.heap.size w w5 := hB3.trans (hk4.below hB3.size (fun q hq => (rw_type HROW3.out hq).1)); clear hown hk4 hat)
        go_roundw
        case rel => exact ⟨k + 1, _, ⟨by simp, rfl⟩, by omega, Lib.hid (by rw [HN2.out]; simp only [if_true]; exact HR3.out), hB4⟩
        case measure => simp [intOf]; omega
    · obtain rfl : k = N.length := by omega
      go_wp2
      go_ret
      refine ⟨_, rfl, ?_, hB⟩
      have e1 := filTo_all (fun x => inL (pathT N x) s) (allN N)
      rw [show (allN N).length = N.length by simp [allN]] at e1
      have := HROW.out
      rw [e1] at this; exact this
end
end Go.Proofs.Ythaipgbjnigkhaa

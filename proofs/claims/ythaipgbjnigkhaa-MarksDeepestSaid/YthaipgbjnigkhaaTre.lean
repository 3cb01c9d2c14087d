import Derived.Test.YthaipgbjnigkhaaTrd
namespace Go.Proofs.Ythaipgbjnigkhaa
open Go.RowKit Go.Shelf Go.Maps
set_option linter.unusedVariables false
set_option linter.unusedSimpArgs false
theorem app_str {ops : Array Oper} {rest : List Oper} {o : Oper} {a : Act} {Q : Exit → Act → World → Prop} {w : World} (hgd : o.guard = none) (s x : Operand)
    (ho : o.op = .call { callee := .builtin .append, args := #[s, x], argTypes := #[35, 35] })
    (base : Nat) (tb : TypeId) (v : Value) (l : List ByteArray) (u : ByteArray) (hs : a.eval s = v) (hown : w.ownsRow base 9 1 v l.length (strC l)) (c : Nat) (hx : a.eval x = .slice (some ⟨w.heap.size, 0, none⟩) 1 c)
    (hbase : base ≤ w.heap.size) (hlen : l.length + 1 ≤ 100000000)
    (h : ∀ g cap w1, w1.ownsRow base 9 1 (.slice (some ⟨g, 0, none⟩) (l.length + 1) cap) (l ++ [u]).length (strC (l ++ [u])) → Kept (fun k => v.ownBlock = some k) w w1 → (v.ownBlock = some g ∨ w.heap.size < g) → wpList Try.prog ops Q rest (a.put o.dst (.slice (some ⟨g, 0, none⟩) (l.length + 1) cap)) w1) :
    wpList Try.prog ops Q (o :: rest) a (w.alloc (.cells #[.string u] tb)) := by
  obtain ⟨i0, hi, hz0, hz1, hz2⟩ := info_parts info_string
  refine app_rw hgd s x _ ho base _ i0 _ 1 16 Try.underlying35 hi hz0 hz1 hz2 rfl (by decide) tb v l.length (strC l) [.string u] hs hown c hx rfl (by simp [Value.oneCell']) hbase hlen (by decide) ?_
  intro g cap w1 h1 h2 h3
  refine h g cap w1 ?_ h2 h3
  rw [List.length_append, show strC (l ++ [u]) = strC l ++ [.string u] by simp [strC]]; exact h1
def filTo (p : ByteArray → Bool) (l : List ByteArray) (k : Nat) : List ByteArray := (l.take k).filter p
theorem filTo_succ (p : ByteArray → Bool) (l : List ByteArray) (k : Nat) (h : k < l.length) : filTo p l (k + 1) = if p (l[k]'h) then filTo p l k ++ [l[k]'h] else filTo p l k := by
  unfold filTo
  rw [List.take_succ_eq_append_getElem h, List.filter_append]
  cases q : p (l[k]'h) <;> simp [q]
theorem filTo_all (p : ByteArray → Bool) (l : List ByteArray) : filTo p l l.length = l.filter p := by unfold filTo; rw [List.take_length]
theorem filTo_len (p : ByteArray → Bool) (l : List ByteArray) (k : Nat) : (filTo p l k).length ≤ k := by
  unfold filTo; exact Nat.le_trans (List.length_filter_le _ _) (by rw [List.length_take]; exact Nat.min_le_left _ _)
theorem all_size {N : Nodes} (G : Good11 N) {x : ByteArray} (h : x ∈ allN N) : x.size ≤ 100 := by
  obtain ⟨p, hp⟩ := hasN_iff.1 (mem_all.1 h)
  exact (G.fit _ _ hp).1
theorem child_filter (N : Nodes) (G : Good11 N) (s : ByteArray) : (allN N).filter (fun x => !decide (x = rootB) && decide (parN N x = s)) = childN N s := by
  unfold allN childN
  rw [List.filter_map]
  congr 1
  refine List.filter_congr fun p hp => ?_
  show (!decide (p.1 = rootB) && decide (parN N p.1 = s)) = _
  rw [parN_some (p := p.2) G.rise hp]
set_option maxRecDepth 100000 in
set_option maxHeartbeats 4000000 in
theorem those_child {tp mb : Nat} {N : Nodes} (w : World) (h : TreeAt w tp mb N) (G : Good11 N) (fx eb : Nat) (s : ByteArray) (hf : w.cell? ⟨fx, 0, none⟩ = some (.pointer (some ⟨tp, 0, none⟩))) (he : w.cell? ⟨eb, 0, none⟩ = some (.string s)) :
    Calls Try.prog 66 #[.pointer (some ⟨tp, 0, none⟩), .func (.func 67) #[] #[.pointer (some ⟨fx, 0, none⟩), .pointer (some ⟨eb, 0, none⟩)]] w fun e w' => ∃ v, e = .returned v ∧ w'.ownsRow w.heap.size 9 1 v ((allN N).filter (fun x => !decide (x = rootB) && decide (parN N x = s))).length (strC ((allN N).filter (fun x => !decide (x = rootB) && decide (parN N x = s)))) ∧ Below w.heap.size w w' := by
  have hB := Below.refl w.heap.size w
  have H := Lib.hid h
  clear h
  go_enter Try.func66, Try.ntmps66
  go_wp2_with (go_at_call 17; refine (all_calls _ (H.out.below hB) G).mono ?_; rintro e w' ⟨va, rfl, hrow, hb⟩; obtain ⟨aa, ca, rfl⟩ := rw_form hrow; have HA := Lib.hid hrow; have hB := bl_next hB hb; clear hrow hb)
  obtain ⟨V, rfl⟩ : ∃ V : World, V = w' := ⟨_, rfl⟩
  have hB0 := Lib.hid hB
  have hall : (allN N).length ≤ 200 := by unfold allN; rw [List.length_map]; exact G.few
  go_loopw [5, 11] (fun s5 i wr => ∃ (k : Nat) (u : Value), (i = .int .i64 k ∧ s5 = u) ∧ k ≤ (allN N).length ∧ wr.ownsRow V.heap.size 9 1 u (filTo (fun x => !decide (x = rootB) && decide (parN N x = s)) (allN N) k).length (strC (filTo (fun x => !decide (x = rootB) && decide (parN N x = s)) (allN N) k)) ∧ Below V.heap.size V wr) (fun _ i _ => (allN N).length - (intOf i).toNat)
  case atStart => exact ⟨0, _, ⟨rfl, rfl⟩, Nat.zero_le _, World.ownsRow_nil _ _ _ _, Below.refl _ _⟩
  case round =>
    obtain ⟨k, u, ⟨rfl, rfl⟩, hk, hrow, hBr⟩ := hrel
    have HROW := Lib.hid hrow
    have HBR := Lib.hid hBr
    clear hrow hB hBr
    by_cases hkl : k < (allN N).length
    · have hkI : (k : Int) < (allN N).length := by omega
      obtain ⟨ga, ca', hga⟩ := rw_pos HA.out (by omega)
      cases hga
      obtain ⟨x, hx⟩ : ∃ x, (allN N)[k]'hkl = x := ⟨_, rfl⟩
      have hcx := cb HBR.out (((rw_cells HA.out).2.2.1 k (by omega)).trans (congrArg some (strC_getD hkl)))
      rw [hx] at hcx
      have hxs : x.size ≤ 100 := all_size G (hx ▸ List.getElem_mem hkl)
      have HN := Lib.hid (filTo_succ (fun x => !decide (x = rootB) && decide (parN N x = s)) (allN N) k hkl)
      have hlen := filTo_len (fun x => !decide (x = rootB) && decide (parN N x = s)) (allN N) k
      have hBW := bl_from hB0.out HBR.out
      have HW := Lib.hid (H.out.below hBW)
      have h1 := cb hBW hf
      have h2 := cb hBW he
      have HBW := Lib.hid hBW
      obtain ⟨pv, hpv⟩ : ∃ pv, (!decide (x = rootB) && decide (parN N x = s)) = pv := ⟨_, rfl⟩
      have HPV := Lib.hid (show (!decide (x = rootB) && decide (parN N x = s)) = pv from hpv)
      have HN2 := Lib.hid (show filTo (fun x => !decide (x = rootB) && decide (parN N x = s)) (allN N) (k + 1) = if pv then filTo (fun x => !decide (x = rootB) && decide (parN N x = s)) (allN N) k ++ [x] else filTo (fun x => !decide (x = rootB) && decide (parN N x = s)) (allN N) k by rw [HN.out, hx, hpv])
      obtain ⟨fl, hfl⟩ : ∃ fl, filTo (fun x => !decide (x = rootB) && decide (parN N x = s)) (allN N) k = fl := ⟨_, rfl⟩
      rw [hfl] at HN2 HROW hlen
      clear hpv hx hfl HN hBW
      cases pv with
      | false =>
        go_wp2_with (go_at_call 67; refine (child1_calls _ HW.out fx eb s x h1 h2 (by omega)).mono ?_; rintro e w' ⟨rfl, hb⟩; rw [HPV.out])
        go_roundw
        case rel => exact ⟨k + 1, _, ⟨by simp, rfl⟩, by omega, by rw [HN2.out]; exact rw_below HROW.out hb, bl_next HBR.out hb⟩
        case measure => simp [intOf]; omega
      | true =>
        go_wp2_with (first | (go_at_call 67; refine (child1_calls _ HW.out fx eb s x h1 h2 (by omega)).mono ?_; rintro e w' ⟨rfl, hb⟩; rw [HPV.out]; have HROW2 := Lib.hid (rw_below HROW.out hb); have HBR2 := Lib.hid (bl_next HBR.out hb); have hbz := (bl_next HBR.out hb).size; clear hb) | (at_builtin; refine app_str rfl (.tmp 18) (.tmp 20) rfl V.heap.size 9 _ fl x rfl HROW2.out 1 rfl hbz (by omega) ?_; intro g2 cap2 w5 hown hk4 hat; have HR3 := Lib.hid hown; have hBV : Below V.heap.size V w5 := HBR2.out.trans (hk4.below HBR2.out.size (fun q hq => (rw_type HROW2.out hq).1)); clear hown hk4 hat))
        go_roundw
        case rel => exact ⟨k + 1, _, ⟨by simp, rfl⟩, by omega, by rw [HN2.out]; exact HR3.out, hBV⟩
        case measure => simp [intOf]; omega
    · obtain rfl : k = (allN N).length := by omega
      go_wp2
      go_ret
      refine ⟨_, rfl, ?_, bl_from hB0.out HBR.out⟩
      rw [← filTo_all]; exact rw_mono HROW.out hB0.out.size
set_option maxRecDepth 100000 in
set_option maxHeartbeats 4000000 in
theorem those_below {tp mb : Nat} {N : Nodes} (w : World) (h : TreeAt w tp mb N) (G : Good11 N) (fx eb : Nat) (s : ByteArray) (hf : w.cell? ⟨fx, 0, none⟩ = some (.pointer (some ⟨tp, 0, none⟩))) (he : w.cell? ⟨eb, 0, none⟩ = some (.string s)) :
    Calls Try.prog 66 #[.pointer (some ⟨tp, 0, none⟩), .func (.func 68) #[] #[.pointer (some ⟨fx, 0, none⟩), .pointer (some ⟨eb, 0, none⟩)]] w fun e w' => ∃ v, e = .returned v ∧ w'.ownsRow w.heap.size 9 1 v ((allN N).filter (fun x => inL (pathT N x) s)).length (strC ((allN N).filter (fun x => inL (pathT N x) s))) ∧ Below w.heap.size w w' := by
  have hB := Below.refl w.heap.size w
  have H := Lib.hid h
  clear h
  go_enter Try.func66, Try.ntmps66
  go_wp2_with (go_at_call 17; refine (all_calls _ (H.out.below hB) G).mono ?_; rintro e w' ⟨va, rfl, hrow, hb⟩; obtain ⟨aa, ca, rfl⟩ := rw_form hrow; have HA := Lib.hid hrow; have hB := bl_next hB hb; clear hrow hb)
  obtain ⟨V, rfl⟩ : ∃ V : World, V = w' := ⟨_, rfl⟩
  have hB0 := Lib.hid hB
  have hall : (allN N).length ≤ 200 := by unfold allN; rw [List.length_map]; exact G.few
  go_loopw [5, 11] (fun s5 i wr => ∃ (k : Nat) (u : Value), (i = .int .i64 k ∧ s5 = u) ∧ k ≤ (allN N).length ∧ wr.ownsRow V.heap.size 9 1 u (filTo (fun x => inL (pathT N x) s) (allN N) k).length (strC (filTo (fun x => inL (pathT N x) s) (allN N) k)) ∧ Below V.heap.size V wr) (fun _ i _ => (allN N).length - (intOf i).toNat)
  case atStart => exact ⟨0, _, ⟨rfl, rfl⟩, Nat.zero_le _, World.ownsRow_nil _ _ _ _, Below.refl _ _⟩
  case round =>
    obtain ⟨k, u, ⟨rfl, rfl⟩, hk, hrow, hBr⟩ := hrel
    have HROW := Lib.hid hrow
    have HBR := Lib.hid hBr
    clear hrow hB hBr
    by_cases hkl : k < (allN N).length
    · have hkI : (k : Int) < (allN N).length := by omega
      obtain ⟨ga, ca', hga⟩ := rw_pos HA.out (by omega)
      cases hga
      obtain ⟨x, hx⟩ : ∃ x, (allN N)[k]'hkl = x := ⟨_, rfl⟩
      have hcx := cb HBR.out (((rw_cells HA.out).2.2.1 k (by omega)).trans (congrArg some (strC_getD hkl)))
      rw [hx] at hcx
      have hxs : x.size ≤ 100 := all_size G (hx ▸ List.getElem_mem hkl)
      have HN := Lib.hid (filTo_succ (fun x => inL (pathT N x) s) (allN N) k hkl)
      have hlen := filTo_len (fun x => inL (pathT N x) s) (allN N) k
      have hBW := bl_from hB0.out HBR.out
      have HW := Lib.hid (H.out.below hBW)
      have h1 := cb hBW hf
      have h2 := cb hBW he
      have HBW := Lib.hid hBW
      obtain ⟨pv, hpv⟩ : ∃ pv, (inL (pathT N x) s) = pv := ⟨_, rfl⟩
      have HPV := Lib.hid (show (inL (pathT N x) s) = pv from hpv)
      have HN2 := Lib.hid (show filTo (fun x => inL (pathT N x) s) (allN N) (k + 1) = if pv then filTo (fun x => inL (pathT N x) s) (allN N) k ++ [x] else filTo (fun x => inL (pathT N x) s) (allN N) k by rw [HN.out, hx, hpv])
      obtain ⟨fl, hfl⟩ : ∃ fl, filTo (fun x => inL (pathT N x) s) (allN N) k = fl := ⟨_, rfl⟩
      rw [hfl] at HN2 HROW hlen
      clear hpv hx hfl HN hBW
      cases pv with
      | false =>
        go_wp2_with (go_at_call 68; refine (below1_calls _ HW.out G fx eb s x h1 h2 (by omega)).mono ?_; rintro e w' ⟨rfl, hb⟩; rw [HPV.out])
        go_roundw
        case rel => exact ⟨k + 1, _, ⟨by simp, rfl⟩, by omega, by rw [HN2.out]; exact rw_below HROW.out hb, bl_next HBR.out hb⟩
        case measure => simp [intOf]; omega
      | true =>
        go_wp2_with (first | (go_at_call 68; refine (below1_calls _ HW.out G fx eb s x h1 h2 (by omega)).mono ?_; rintro e w' ⟨rfl, hb⟩; rw [HPV.out]; have HROW2 := Lib.hid (rw_below HROW.out hb); have HBR2 := Lib.hid (bl_next HBR.out hb); have hbz := (bl_next HBR.out hb).size; clear hb) | (at_builtin; refine app_str rfl (.tmp 18) (.tmp 20) rfl V.heap.size 9 _ fl x rfl HROW2.out 1 rfl hbz (by omega) ?_; intro g2 cap2 w5 hown hk4 hat; have HR3 := Lib.hid hown; have hBV : Below V.heap.size V w5 := HBR2.out.trans (hk4.below HBR2.out.size (fun q hq => (rw_type HROW2.out hq).1)); clear hown hk4 hat))
        go_roundw
        case rel => exact ⟨k + 1, _, ⟨by simp, rfl⟩, by omega, by rw [HN2.out]; exact HR3.out, hBV⟩
        case measure => simp [intOf]; omega
    · obtain rfl : k = (allN N).length := by omega
      go_wp2
      go_ret
      refine ⟨_, rfl, ?_, bl_from hB0.out HBR.out⟩
      rw [← filTo_all]; exact rw_mono HROW.out hB0.out.size
end Go.Proofs.Ythaipgbjnigkhaa

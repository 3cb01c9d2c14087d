import Derived.Test.YthaipgbjnigkhaaTtb
namespace Go.Proofs.Ythaipgbjnigkhaa
open Go.RowKit Go.Shelf Go.Maps
set_option linter.unusedVariables false
set_option linter.unusedSimpArgs false
set_option linter.unusedSectionVars false
theorem info_node : (Try.prog.info? 88).map (fun i => (i.zero, i.size, i.bytes)) = some (some (.agg #[.string ⟨#[]⟩, .string ⟨#[]⟩]), 2, 32) := by kernel_rfl
theorem app_node {ops : Array Oper} {rest : List Oper} {o : Oper} {a : Act} {Q : Exit → Act → World → Prop} {w : World} (hgd : o.guard = none) (s x : Operand)
    (ho : o.op = .call { callee := .builtin .append, args := #[s, x], argTypes := #[89, 89] })
    (base : Nat) (tb : TypeId) (v : Value) (l : Nodes) (u : ByteArray × ByteArray) (hs : a.eval s = v) (hown : w.ownsRow base 88 2 v l.length (nodesC l)) (c : Nat) (hx : a.eval x = .slice (some ⟨w.heap.size, 0, none⟩) 1 c)
    (hbase : base ≤ w.heap.size) (hlen : l.length + 1 ≤ 100000000)
    (h : ∀ g cap w1, w1.ownsRow base 88 2 (.slice (some ⟨g, 0, none⟩) (l.length + 1) cap) (l ++ [u]).length (nodesC (l ++ [u])) → Kept (fun k => v.ownBlock = some k) w w1 → (v.ownBlock = some g ∨ w.heap.size < g) → wpList Try.prog ops Q rest (a.put o.dst (.slice (some ⟨g, 0, none⟩) (l.length + 1) cap)) w1) :
    wpList Try.prog ops Q (o :: rest) a (w.alloc (.cells #[.string u.1, .string u.2] tb)) := by
  obtain ⟨i0, hi, hz0, hz1, hz2⟩ := info_parts info_node
  refine app_rw hgd s x _ ho base _ i0 _ 2 32 Try.underlying89 hi hz0 hz1 hz2 rfl (by decide) tb v l.length (nodesC l) [.string u.1, .string u.2] hs hown c hx rfl (by simp [Value.oneCell']) hbase hlen (by decide) ?_
  intro g cap w1 h1 h2 h3
  refine h g cap w1 ?_ h2 h3
  rw [List.length_append, ← nodesC_app]; exact h1
theorem nodes_cells (p : ByteArray × ByteArray) : (Value.agg #[.string p.1, .string p.2]).cells = #[.string p.1, .string p.2] := by simp [Value.cells]
def delTo (N : Nodes) (s : ByteArray) (k : Nat) : Nodes := delN (N.take k) s
theorem delTo_succ (N : Nodes) (s : ByteArray) (k : Nat) (h : k < N.length) : delTo N s (k + 1) = if (N[k]'h).1 = s then delTo N s k else delTo N s k ++ [N[k]'h] := by
  unfold delTo delN
  rw [List.take_succ_eq_append_getElem h, List.filter_append]
  by_cases q : (N[k]'h).1 = s <;> simp [q]
theorem delTo_all (N : Nodes) (s : ByteArray) : delTo N s N.length = delN N s := by unfold delTo; rw [List.take_length]
theorem delTo_len (N : Nodes) (s : ByteArray) (k : Nat) : (delTo N s k).length ≤ k := by
  unfold delTo delN; exact Nat.le_trans (List.length_filter_le _ _) (by rw [List.length_take]; exact Nat.min_le_left _ _)
/-- The store of the row that was made. -/
theorem refT_store {w cur : World} {base rp : Nat} {v u : Value} {N M : Nodes} (h : RefT w base rp v N) (hb : Below w.heap.size w cur) (hu : cur.ownsRow w.heap.size 88 2 u M.length (nodesC M)) :
    RefT (cur.setCell ⟨rp, 0, none⟩ u) base rp u M ∧ Kept (fun q => q = rp) w (cur.setCell ⟨rp, 0, none⟩ u) := by
  have hbox := (h.below hb).box
  have hlt := blk_lt h.box
  refine ⟨⟨heap_setCell_same _ rp 0 _ _ _ hbox, ?_, h.bas⟩, (kept_of_below (X := fun q => q = rp) hb).setCell _ _ (.inl rfl)⟩
  exact rw_mono (rw_kept hu (X := fun q => q = rp) ((Kept.refl _ _).setCell _ _ (.inl rfl)) (fun q hq e => rw_other hu hbox (by decide) (by rw [← e]; exact hq))) (by have := h.bas; omega)
section
variable {base rp : Nat} {v : Value} {N : Nodes}
set_option maxRecDepth 100000 in
set_option maxHeartbeats 4000000 in
theorem rremoveT_calls (w : World) (h : RefT w base rp v N) (s : ByteArray) (hl : N.length ≤ 1000000) (r : Int) (M : Nodes) (hr : removeR N s = (r, M)) :
    Calls Try.prog 61 #[.pointer (some ⟨rp, 0, none⟩), .string s] w fun e w' => e = .returned (.int .i64 r) ∧ ∃ u, RefT w' base rp u M ∧ Kept (fun q => q = rp) w w' := by
  have hB := Below.refl w.heap.size w
  have H := Lib.hid h
  obtain ⟨ao, cap, rfl⟩ := h.form
  have C0 := Lib.hid (show w.cell? ⟨rp, 0, none⟩ = some (.slice ao N.length cap) from blk_cell h.box 0)
  have CF := Lib.hid (show w.frozen? ⟨rp, 0, none⟩ = false from blk_free h.box 0)
  clear h
  unfold removeR at hr
  cases h1 : hasN N s with
  | false =>
    rw [h1] at hr
    have H1 := Lib.hid h1
    clear h1
    obtain ⟨rfl, rfl⟩ : r = 4 ∧ M = N := by simpa [eq_comm] using hr
    clear hr
    go_enter Try.func61, Try.ntmps61
    go_wp2_with (go_at_call 26; refine (rhasT_calls _ (H.out.below hB) s hl).mono ?_; rintro e w' ⟨rfl, hb⟩; rw [H1.out]; have hB := bl_next hB hb; clear hb)
    go_ret
    exact ⟨rfl, _, H.out.below hB, kept_of_below hB⟩
  | true =>
    rw [h1] at hr
    have H1 := Lib.hid h1
    clear h1
    simp only [Bool.not_true, Bool.false_eq_true, if_false] at hr
    by_cases hroot : s = rootB
    · rw [if_pos hroot] at hr
      obtain ⟨rfl, rfl⟩ : r = 1 ∧ M = N := by simpa [eq_comm] using hr
      clear hr
      have hrf : (s.toList == [114, 111, 111, 116]) = true := by rw [hroot, root_list]; rfl
      have hrn : s.toList = [114, 111, 111, 116] := by rw [hroot, root_list]
      clear hroot
      go_enter Try.func61, Try.ntmps61
      go_wp2_with (go_at_call 26; refine (rhasT_calls _ (H.out.below hB) s hl).mono ?_; rintro e w' ⟨rfl, hb⟩; rw [H1.out]; have hB := bl_next hB hb; clear hb)
      go_ret
      exact ⟨rfl, _, H.out.below hB, kept_of_below hB⟩
    · rw [if_neg hroot] at hr
      obtain ⟨hrf, hrn⟩ := rootF hroot
      clear hroot
      obtain ⟨ch, hch⟩ : ∃ ch, childN N s = ch := ⟨_, rfl⟩
      have HC := Lib.hid hch
      rw [hch] at hr
      clear hch
      cases hce : ch with
      | cons a t =>
        subst hce
        obtain ⟨rfl, rfl⟩ : r = 10 ∧ M = N := by simpa [eq_comm] using hr
        clear hr
        have hlI : (0 : Int) < (t.length : Int) + 1 := by omega
        go_enter Try.func61, Try.ntmps61
        go_wp2_with fail
        refine (rhasT_calls _ (H.out.below hB) s hl).mono ?_; rintro e w' ⟨rfl, hb⟩; rw [H1.out]; have hB := bl_next hB hb; clear hb
        go_wp2_with fail
        refine (rchildT_calls _ (H.out.below hB) s hl).mono ?_; rintro e w' ⟨u, rfl, hrow, hb⟩; rw [HC.out] at hrow; obtain ⟨au, cu, rfl⟩ := rw_form hrow; rw [List.length_cons]; have hB := bl_next hB hb; clear hb hrow
        go_wp2_with fail
        go_ret
        exact ⟨rfl, _, H.out.below hB, kept_of_below hB⟩
      | nil =>
        subst hce
        obtain ⟨rfl, rfl⟩ : r = 0 ∧ M = delN N s := by simpa [eq_comm] using hr
        clear hr
        go_enter Try.func61, Try.ntmps61
        go_wp2_with fail
        refine (rhasT_calls _ (H.out.below hB) s hl).mono ?_; rintro e w' ⟨rfl, hb⟩; rw [H1.out]; have hB := bl_next hB hb; clear hb
        go_wp2_with fail
        refine (rchildT_calls _ (H.out.below hB) s hl).mono ?_; rintro e w' ⟨u, rfl, hrow, hb⟩; rw [HC.out] at hrow; obtain ⟨au, cu, rfl⟩ := rw_form hrow; have hB := bl_next hB hb; clear hb hrow
        rw [List.length_nil]
        go_wp2_with fail
        go_loopw [5, 6] (fun s5 i wr => ∃ (k : Nat) (u : Value), (i = .int .i64 k ∧ s5 = u) ∧ k ≤ N.length ∧ Hid (wr.ownsRow w.heap.size 88 2 u (delTo N s k).length (nodesC (delTo N s k))) ∧ Below w.heap.size w wr) (fun _ i _ => N.length - (intOf i).toNat)
        case atStart => exact ⟨0, _, ⟨rfl, rfl⟩, Nat.zero_le _, Lib.hid (World.ownsRow_nil _ _ _ _), hB⟩
        case round =>
          clear hB
          obtain ⟨k, u, ⟨rfl, rfl⟩, hk, HROW, hB⟩ := hrel
          have c0 := cb hB C0.out
          by_cases hkl : k < N.length
          · have hkI : (k : Int) < N.length := by omega
            obtain ⟨g, c', he, c1, c2⟩ := (H.out.below hB).at' hkl
            cases he
            have HN := Lib.hid (delTo_succ N s k hkl)
            obtain ⟨x, hx⟩ : ∃ x, N[k]'hkl = x := ⟨_, rfl⟩
            rw [hx] at c1 c2 HN
            have hlen := delTo_len N s k
            obtain ⟨fl, hfl⟩ : ∃ fl, delTo N s k = fl := ⟨_, rfl⟩
            rw [hfl] at HN HROW hlen
            have hbz := hB.size
            clear hx hfl
            by_cases h2 : x.1 = s
            · have hbf : (x.1.toList == s.toList) = true := by rw [beq_str]; simpa using h2
              have hbn : x.1.toList = s.toList := by rw [h2]
              have HN2 := Lib.hid (show delTo N s (k + 1) = fl by rw [HN.out, if_pos h2])
              clear h2 HN
              go_wp2_with fail
              go_roundw
              case rel => exact ⟨k + 1, _, ⟨by simp, rfl⟩, by omega, Lib.hid (by rw [HN2.out]; exact HROW.out), hB⟩
              case measure => simp [intOf]; omega
            · have hbf := beqF h2
              have hbn := neF h2
              have HN2 := Lib.hid (show delTo N s (k + 1) = fl ++ [x] by rw [HN.out, if_neg h2])
              clear h2 HN
              go_wp2_with (at_builtin; refine app_node rfl (.tmp 37) (.tmp 45) rfl w.heap.size 88 _ fl x rfl HROW.out 1 rfl (by first | omega | (simp; omega)) (by omega) ?_; intro g2 cap2 w5 hown hk4 hat; have HR3 := Lib.hid hown; have hB3 : Below w.heap.size w w5 := Below.trans hB (hk4.below (Below.size hB) (fun q hq => (rw_type HROW.out hq).1)); clear hown hk4 hat)
              go_roundw
              case rel => exact ⟨k + 1, _, ⟨by simp, rfl⟩, by omega, Lib.hid (by rw [HN2.out]; exact HR3.out), hB3⟩
              case measure => simp [intOf]; omega
          · obtain rfl : k = N.length := by omega
            have cf := fzb hB (lt_of_cell C0.out) CF.out
            have hrow := HROW.out
            rw [delTo_all] at hrow
            have HX := Lib.hid hrow
            clear hrow HROW
            obtain ⟨a5, c5, rfl⟩ := rw_form HX.out
            go_wp2_with fail
            go_ret
            obtain ⟨q1, q2⟩ := refT_store H.out hB HX.out
            exact ⟨rfl, _, q1, q2⟩
end
end Go.Proofs.Ythaipgbjnigkhaa

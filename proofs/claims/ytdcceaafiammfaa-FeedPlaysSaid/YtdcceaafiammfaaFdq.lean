import Derived.Test.YtdcceaafiammfaaFdo
import Derived.Test.YtdcceaafiammfaaTree
namespace Go.Proofs.Ytdcceaafiammfaa
open Go.RowKit
set_option linter.unusedVariables false
set_option linter.unusedSimpArgs false
/-! ### The reference's feed -/
structure RefAt (w : World) (base rb : Nat) (kv iv : Value) (l : List Item) (cov : Nat) : Prop where
  box : w.heap[rb]? = some (.cells #[kv, iv, .int .i64 cov] 31)
  keys : w.ownsRow base 35 3 kv l.length (keysC l)
  is : w.ownsRow base 3 1 iv l.length (stC l)
def refX (rb : Nat) (kv iv : Value) : Nat → Prop := fun k => k = rb ∨ kv.ownBlock = some k ∨ iv.ownBlock = some k
section
variable {w w' : World} {base rb : Nat} {kv iv : Value} {l : List Item} {cov : Nat}
theorem RefAt.kept {X : Nat → Prop} (h : RefAt w base rb kv iv l cov) (hk : Kept X w w') (hx : ∀ k, refX rb kv iv k → ¬ X k) : RefAt w' base rb kv iv l cov :=
  ⟨hk.heap h.box (hx rb (.inl rfl)), rw_kept h.keys hk (fun k hk => hx k (.inr (.inl hk))), rw_kept h.is hk (fun k hk => hx k (.inr (.inr hk)))⟩
theorem RefAt.below (h : RefAt w base rb kv iv l cov) (hb : Below w.heap.size w w') : RefAt w' base rb kv iv l cov :=
  h.kept (kept_of_below (X := fun _ => False) hb) (fun _ _ q => q)
theorem RefAt.at' (h : RefAt w base rb kv iv l cov) {i : Nat} (hi : i < l.length) : ∃ gk ck gi ci, kv = .slice (some ⟨gk, 0, none⟩) l.length ck ∧ iv = .slice (some ⟨gi, 0, none⟩) l.length ci ∧ w.cell? ⟨gi, i, none⟩ = some (.int .i64 ((itemAt l i).st : Int)) ∧ w.frozen? ⟨gi, i, none⟩ = false ∧
    w.cell? ⟨gk, i * 3, none⟩ = some (.string (itemAt l i).k) ∧ w.cell? ⟨gk, i * 3 + 1, none⟩ = some (.string (itemAt l i).s) ∧ w.cell? ⟨gk, i * 3 + 2, none⟩ = some (.string (itemAt l i).n) := by
  obtain ⟨gk, ck, rfl⟩ := rw_pos h.keys (by omega)
  obtain ⟨gi, ci, rfl⟩ := rw_pos h.is (by omega)
  have kc := (rw_cells h.keys).2.2.1
  have ic := (rw_cells h.is).2.2
  refine ⟨gk, ck, gi, ci, rfl, rfl, (ic.1 i (by omega)).trans (congrArg some (stC_getD hi)), ic.2 i, (kc (i * 3) (by omega)).trans (congrArg some (keysC_getD l i 0 hi (by decide))), (kc (i * 3 + 1) (by omega)).trans (congrArg some (keysC_getD l i 1 hi (by decide))), (kc (i * 3 + 2) (by omega)).trans (congrArg some (keysC_getD l i 2 hi (by decide)))⟩
theorem RefAt.lens (h : RefAt w base rb kv iv l cov) : ∃ ak ck ai ci, kv = .slice ak l.length ck ∧ iv = .slice ai l.length ci := by
  obtain ⟨ak, ck, rfl⟩ := rw_form h.keys
  obtain ⟨ai, ci, rfl⟩ := rw_form h.is
  exact ⟨_, _, _, _, rfl, rfl⟩
end
theorem rsettled_calls {base rb : Nat} {kv iv : Value} {l : List Item} {cov : Nat} (w : World) (h : RefAt w base rb kv iv l cov) (i : Nat) (hi : i < l.length) (hl : l.length ≤ 1000000) :
    Calls Try.prog 61 #[.pointer (some ⟨rb, 0, none⟩), .int .i64 i] w fun e w' => e = .returned (.bool (stB l cov i)) ∧ Below w.heap.size w w' := by
  have hB := Below.refl w.heap.size w
  obtain ⟨gk, ck, gi, ci, rfl, rfl, i0, -, -, -, -⟩ := h.at' hi
  have c1 := blk_cell h.box 1
  have c2 := blk_cell h.box 2
  have HS := Lib.hid (show stB l cov i = (decide ((itemAt l i).st = 1) || decide (i < cov)) from rfl)
  generalize (itemAt l i).st = st at i0 HS
  clear h
  have hiI : (i : Int) < l.length := by omega
  by_cases h1 : st = 1
  · subst h1
    go_enter Try.func61, Try.ntmps61
    go_wp2
    go_ret
    exact ⟨ret_bool (by rw [HS.out]; simp), hB⟩
  · have h1b : ((st : Int) == 1) = false := by simp; omega
    go_enter Try.func61, Try.ntmps61
    go_wp2
    go_ret
    exact ⟨ret_bool (by rw [HS.out]; simp [h1]; omega), hB⟩
theorem rcover_calls {base rb : Nat} {kv iv : Value} {l : List Item} {cov : Nat} (w : World) (h : RefAt w base rb kv iv l cov) (i : Int) (hl : l.length ≤ 1000000) :
    Calls Try.prog 58 #[.pointer (some ⟨rb, 0, none⟩), .int .i64 i] w fun e w' => e = .returned (.int .i64 (coverR l cov i).1) ∧ RefAt w' base rb kv iv l (coverR l cov i).2 ∧ Kept (refX rb kv iv) w w' := by
  have hB := Below.refl w.heap.size w
  obtain ⟨ak, ck, ai, ci, rfl, rfl⟩ := h.lens
  have H := Lib.hid h
  have c0 := blk_cell h.box 0
  have c2 := blk_cell h.box 2
  have cf := blk_free h.box 2
  clear h
  by_cases h1 : i < 0
  · have HR := Lib.hid (show coverR l cov i = (1, cov) by unfold coverR; simp [h1])
    go_enter Try.func58, Try.ntmps58
    go_wp2
    go_ret
    exact ⟨by rw [HR.out]; rfl, by rw [HR.out]; exact H.out, kept_of_below hB⟩
  · have h1' : 0 ≤ i := by omega
    by_cases h2 : (l.length : Int) < i
    · have HR := Lib.hid (show coverR l cov i = (1, cov) by unfold coverR; simp [h1, h2])
      go_enter Try.func58, Try.ntmps58
      go_wp2
      go_ret
      exact ⟨by rw [HR.out]; rfl, by rw [HR.out]; exact H.out, kept_of_below hB⟩
    · have h2' : i ≤ l.length := by omega
      by_cases h3 : i < cov
      · have HR := Lib.hid (show coverR l cov i = (6, cov) by unfold coverR; simp [h1, h2, h3])
        go_enter Try.func58, Try.ntmps58
        go_wp2
        go_ret
        exact ⟨by rw [HR.out]; rfl, by rw [HR.out]; exact H.out, kept_of_below hB⟩
      · obtain ⟨j, rfl⟩ : ∃ j : Nat, i = (j : Int) := ⟨i.toNat, by omega⟩
        have HR := Lib.hid (show coverR l cov (j : Int) = (0, j) by unfold coverR; simp [h1, h2, h3])
        have h3' : (cov : Int) ≤ j := by omega
        go_enter Try.func58, Try.ntmps58
        go_wp2
        go_ret
        have hk : Kept (fun k => k = rb) w (w.setCell ⟨rb, 2, none⟩ (.int .i64 j)) := (Kept.refl _ w).setCell _ _ (.inl rfl)
        refine ⟨by rw [HR.out]; rfl, ?_, hk.wider (fun k hk => .inl hk)⟩
        rw [HR.out]
        exact ⟨heap_setCell_same w rb 2 _ _ (.int .i64 j) H.out.box, rw_kept H.out.keys hk (fun k q e => rw_other H.out.keys H.out.box (by decide) (by rw [← e]; exact q)), rw_kept H.out.is hk (fun k q e => rw_other H.out.is H.out.box (by decide) (by rw [← e]; exact q))⟩
theorem RefAt.setSt {w : World} {base rb gi ci n : Nat} {kv : Value} {l : List Item} {cov : Nat} (h : RefAt w base rb kv (.slice (some ⟨gi, 0, none⟩) n ci) l cov) (j st : Nat) :
    RefAt (w.setCell ⟨gi, j, none⟩ (.int .i64 st)) base rb kv (.slice (some ⟨gi, 0, none⟩) n ci) (setSt l j st) cov := by
  have hn : n = l.length := by obtain ⟨ao, c, e⟩ := rw_form h.is; cases e; rfl
  subst hn
  have hk : Kept (fun k => k = gi) w (w.setCell ⟨gi, j, none⟩ (.int .i64 st)) := (Kept.refl _ w).setCell _ _ (.inl rfl)
  refine ⟨hk.heap h.box (fun e => rw_other h.is h.box (by decide) (by rw [e]; rfl)), ?_, ?_⟩
  · rw [setSt_length, keysC_set]
    exact rw_kept h.keys hk (fun k q e => rw_ne h.is h.keys (by decide) k q (by rw [e]; rfl))
  · rw [setSt_length, ← stC_set]
    exact rw_set h.is j _
theorem rdrop_calls {base rb : Nat} {kv iv : Value} {l : List Item} {cov : Nat} (w : World) (h : RefAt w base rb kv iv l cov) (i : Int) (hl : l.length ≤ 1000000) (h2l : ∀ x ∈ l, x.st ≤ 2) :
    Calls Try.prog 57 #[.pointer (some ⟨rb, 0, none⟩), .int .i64 i] w fun e w' => e = .returned (.int .i64 (dropR l cov i).1) ∧ RefAt w' base rb kv iv (dropR l cov i).2 cov ∧ Kept (refX rb kv iv) w w' := by
  have hB := Below.refl w.heap.size w
  have H := Lib.hid h
  cases hno : noneB l i with
  | true =>
    obtain ⟨ak, ck, ai, ci, rfl, rfl⟩ := h.lens
    have c0 := blk_cell h.box 0
    have HR := Lib.hid (show dropR l cov i = (1, l) by unfold dropR; rw [hno]; rfl)
    unfold noneB at hno
    simp only [Bool.or_eq_true, decide_eq_true_eq] at hno
    clear h
    by_cases h1 : i < 0
    · go_enter Try.func57, Try.ntmps57
      clear hno
      go_wp2
      go_ret
      exact ⟨by rw [HR.out]; rfl, by rw [HR.out]; exact H.out, kept_of_below hB⟩
    · have h1' : (l.length : Int) ≤ i := by omega
      have h0' : 0 ≤ i := by omega
      clear hno
      go_enter Try.func57, Try.ntmps57
      go_wp2
      go_ret
      exact ⟨by rw [HR.out]; rfl, by rw [HR.out]; exact H.out, kept_of_below hB⟩
  | false =>
    obtain ⟨j, rfl, hj⟩ := noneB_false hno
    obtain ⟨gk, ck, gi, ci, rfl, rfl, i0, fi, -, -, -⟩ := h.at' hj
    have c0 := blk_cell h.box 0
    have c1 := blk_cell h.box 1
    have HR := Lib.hid (show dropR l cov (j : Int) = if stB l cov j || decide ((itemAt l j).st = 2) then (6, l) else (0, setSt l j 2) by unfold dropR; rw [hno]; rfl)
    have hst2 : (itemAt l j).st ≤ 2 := h2l _ (itemAt_mem hj)
    have HSD := Lib.hid (stB_def l cov j)
    generalize hst : (itemAt l j).st = st at i0 HR HSD hst2
    obtain ⟨sb, hsb⟩ : ∃ sb, stB l cov j = sb := ⟨_, rfl⟩
    have HSB := Lib.hid hsb
    have hjI : (j : Int) < l.length := by omega
    clear h hno hst hsb
    by_cases h0 : st = 0
    · subst h0
      cases sb with
      | true =>
        go_enter Try.func57, Try.ntmps57
        go_wp2_with (go_at_call 61; refine (rsettled_calls _ (H.out.below hB) j hj hl).mono ?_; rintro e w' ⟨rfl, hb⟩; rw [HSB.out]; have c1 := cb hb c1; have i0 := cb hb i0; have hB := bl_next hB hb; clear hb)
        go_ret
        exact ⟨by rw [HR.out, HSB.out]; rfl, by rw [HR.out, HSB.out]; exact H.out.below hB, kept_of_below hB⟩
      | false =>
        have HX := Lib.hid (show dropR l cov (j : Int) = (0, setSt l j 2) by rw [HR.out, HSB.out]; rfl)
        clear hst2
        go_enter Try.func57, Try.ntmps57
        go_wp2_with (go_at_call 61; refine (rsettled_calls _ (H.out.below hB) j hj hl).mono ?_; rintro e w' ⟨rfl, hb⟩; rw [HSB.out]; have fi := fzb hb (lt_of_cell i0) fi; have c1 := cb hb c1; have i0 := cb hb i0; have hB := bl_next hB hb; clear hb)
        go_ret
        refine ⟨by rw [HX.out]; rfl, ?_, (kept_of_below hB).setCell _ _ (.inl (.inr (.inr rfl)))⟩
        rw [HX.out]
        exact (H.out.below hB).setSt j 2
    · have h0b : ((st : Int) == 0) = false := by simp; omega
      have HX := Lib.hid (show dropR l cov (j : Int) = (6, l) by
        rw [HR.out, HSD.out, if_pos]
        simp; omega)
      clear h0b hst2
      go_enter Try.func57, Try.ntmps57
      go_wp2_with (go_at_call 61; refine (rsettled_calls _ (H.out.below hB) j hj hl).mono ?_; rintro e w' ⟨rfl, hb⟩; rw [HSB.out]; have c1 := cb hb c1; have i0 := cb hb i0; have hB := bl_next hB hb; clear hb)
      go_ret
      exact ⟨by rw [HX.out]; rfl, by rw [HX.out]; exact H.out.below hB, kept_of_below hB⟩
theorem rsafe_calls {base rb : Nat} {kv iv : Value} {l : List Item} {cov : Nat} (w : World) (h : RefAt w base rb kv iv l cov) (hl : l.length ≤ 1000000) :
    Calls Try.prog 22 #[.pointer (some ⟨rb, 0, none⟩)] w fun e w' => e = .returned (.int .i64 (safeN l cov)) ∧ Below w.heap.size w w' := by
  have hB := Below.refl w.heap.size w
  obtain ⟨ak, ck, ai, ci, rfl, rfl⟩ := h.lens
  have H := Lib.hid h
  have c0 := blk_cell h.box 0
  clear h
  go_enter Try.func22, Try.ntmps22
  go_wp2
  go_loopw [3] (fun i wr => ∃ k : Nat, i = .int .i64 k ∧ k ≤ l.length ∧ openTo l cov k = [] ∧ Below w.heap.size w wr) (fun i _ => l.length - (intOf i).toNat)
  case atStart => exact ⟨0, rfl, Nat.zero_le _, rfl, hB⟩
  case round =>
    obtain ⟨k, rfl, hk, ho, hB⟩ := hrel
    have HO := Lib.hid ho
    have c0 := cb hB c0
    clear ho
    by_cases hkl : k < l.length
    · have hkI : (k : Int) < l.length := by omega
      obtain ⟨sb, hsb⟩ : ∃ sb, stB l cov k = sb := ⟨_, rfl⟩
      have HSB := Lib.hid hsb
      clear hsb
      cases sb with
      | true =>
        go_wp2_with (go_at_call 61; refine (rsettled_calls _ (H.out.below hB) k hkl hl).mono ?_; rintro e w' ⟨rfl, hb⟩; rw [HSB.out]; have hB := bl_next hB hb; clear hb)
        go_roundw
        case rel => exact ⟨k + 1, by simp, by omega, by rw [openTo_succ, HSB.out]; exact HO.out, hB⟩
        case measure => simp [intOf]; omega
      | false =>
        go_wp2_with (go_at_call 61; refine (rsettled_calls _ (H.out.below hB) k hkl hl).mono ?_; rintro e w' ⟨rfl, hb⟩; rw [HSB.out]; have hB := bl_next hB hb; clear hb)
        go_ret
        exact ⟨ret_int (by rw [safe_first hkl HSB.out HO.out]), hB⟩
    · obtain rfl : k = l.length := by omega
      go_wp2
      go_ret
      exact ⟨ret_int (by rw [safe_all HO.out]), hB⟩
end Go.Proofs.Ytdcceaafiammfaa

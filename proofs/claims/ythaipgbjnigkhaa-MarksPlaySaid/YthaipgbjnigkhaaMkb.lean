import Derived.Test.YthaipgbjnigkhaaMka
import Derived.Test.YthaipgbjnigkhaaTrh
namespace Go.Proofs.Ythaipgbjnigkhaa
open Go.RowKit Go.Shelf Go.Maps
set_option linter.unusedVariables false
set_option linter.unusedSimpArgs false
set_option linter.unusedSectionVars false
theorem zero_bool (w : World) : (zeroValue 4).run Try.prog w = .ok (.bool false) w := by kernel_rfl
section
variable {w w' : World} {mp kb : Nat} {N : Nodes}
theorem MarksAt.kept {X : Nat → Prop} (h : MarksAt w mp kb N) (hk : Kept X w w') (hx : ∀ k, treeX mp kb k → ¬ X k) : MarksAt w' mp kb N :=
  ⟨hk.heap h.box (hx _ (.inl rfl)), mv_kept h.map hk (hx _ (.inr rfl))⟩
theorem MarksAt.below (h : MarksAt w mp kb N) (hb : Below w.heap.size w w') : MarksAt w' mp kb N := h.kept (kept_of_below (X := fun _ => False) hb) (fun _ _ q => q)
theorem MarksAt.ne (h : MarksAt w mp kb N) : mp ≠ kb := mv_other h.map h.box
theorem mark_look (h : MarksAt w mp kb N) {s : ByteArray} (hs : s.size ≤ 1000000) :
    (Instr.lookup 120 (.map (some kb)) (.string s) false).run Try.prog w = .ok (.bool (hasN N s)) w := by
  rw [mv_look h.map string_key Try.underlying120 (zero_bool w) (keyS (by unfold Go.maxLen; omega)), val_dmB]
end
theorem mhas_calls {mp kb : Nat} {N : Nodes} (w : World) (h : MarksAt w mp kb N) (s : ByteArray) (hs : s.size ≤ 1000000) :
    Calls Try.prog 58 #[.pointer (some ⟨mp, 0, none⟩), .string s] w fun e w' => e = .returned (.bool (hasN N s)) ∧ Below w.heap.size w w' := by
  have hB := Below.refl w.heap.size w
  have c0 := blk_cell h.box 0
  have hl := mark_look h hs
  clear h
  go_enter Try.func58, Try.ntmps58
  go_wp2
  go_ret
  exact ⟨rfl, hB⟩
theorem mhas_nil (w : World) (s : ByteArray) :
    Calls Try.prog 58 #[.pointer none, .string s] w fun e w' => e = .returned (.bool false) ∧ Below w.heap.size w w' := by
  have hB := Below.refl w.heap.size w
  go_enter Try.func58, Try.ntmps58
  go_wp2
  go_ret
  exact ⟨rfl, hB⟩
theorem mclear_nil (w : World) (s : ByteArray) :
    Calls Try.prog 55 #[.pointer none, .string s] w fun e w' => e = .returned (.int .i64 1) ∧ Below w.heap.size w w' := by
  have hB := Below.refl w.heap.size w
  go_enter Try.func55, Try.ntmps55
  go_wp2
  go_ret
  exact ⟨rfl, hB⟩
theorem mmark_nil (w : World) (v : Value) :
    Calls Try.prog 52 #[.pointer none, v] w fun e w' => e = .returned (.int .i64 1) ∧ Below w.heap.size w w' := by
  have hB := Below.refl w.heap.size w
  go_enter Try.func52, Try.ntmps52
  go_wp2
  go_ret
  exact ⟨rfl, hB⟩
theorem mall_nil (w : World) :
    Calls Try.prog 56 #[.pointer none] w fun e w' => e = .returned (.slice none 0 0) ∧ Below w.heap.size w w' := by
  have hB := Below.refl w.heap.size w
  go_enter Try.func56, Try.ntmps56
  go_wp2
  go_ret
  exact ⟨rfl, hB⟩
/-- Clear: the error, and what is left. -/
def clearN (N : Nodes) (s : ByteArray) : Int × Nodes := if hasN N s then (0, delN N s) else (4, N)
set_option maxHeartbeats 1000000 in
theorem mclear_calls {mp kb : Nat} {N : Nodes} (w : World) (h : MarksAt w mp kb N) (hR : Rising N) (s : ByteArray) (hs : s.size ≤ 1000000) :
    Calls Try.prog 55 #[.pointer (some ⟨mp, 0, none⟩), .string s] w fun e w' => e = .returned (.int .i64 (clearN N s).1) ∧ MarksAt w' mp kb (clearN N s).2 ∧ Kept (treeX mp kb) w w' := by
  have H := Lib.hid h
  have hB := Below.refl w.heap.size w
  clear h
  cases hh : hasN N s with
  | false =>
    have HH := Lib.hid hh
    have HC := Lib.hid (show clearN N s = (4, N) by unfold clearN; rw [hh]; rfl)
    clear hh
    go_enter Try.func55, Try.ntmps55
    go_wp2_with (go_at_call 58; refine (mhas_calls _ H.out s hs).mono ?_; rintro e w' ⟨rfl, hb⟩; rw [HH.out])
    go_ret
    rw [HC.out]
    exact ⟨rfl, H.out.below hb, kept_of_below hb⟩
  | true =>
    have HH := Lib.hid hh
    have HC := Lib.hid (show clearN N s = (0, delN N s) by unfold clearN; rw [hh]; rfl)
    have HL := Lib.hid (del_length hR hh)
    clear hh
    go_enter Try.func55, Try.ntmps55
    go_wp2_with fail
    refine (mhas_calls _ H.out s hs).mono ?_
    rintro e w' ⟨rfl, hb⟩
    rw [HH.out]
    have HT := Lib.hid (H.out.below hb)
    have c0 := blk_cell HT.out.box 0
    go_wp2_with (at_delete; refine wpList_delete_own _ rfl _ _ 120 9 rfl 4 string_key Try.underlying120 RV kb N.length (dmB N) rfl HT.out.map _ _ rfl (keyS (by unfold maxLen; omega)) ?_; intro w1 hown1 hturn1)
    go_ret
    rw [HC.out]
    have hk := kept_turned hturn1
    rw [del_dmB] at hown1
    refine ⟨rfl, ⟨hk.heap HT.out.box (fun e => HT.out.ne e), ?_⟩, ?_⟩
    · have := mv_tight hown1
      rw [size_dmB] at this; exact this
    · exact (kept_of_below (X := treeX mp kb) hb).trans (hk.wider (Y := treeX mp kb) (fun k e => .inr e)) (fun n q => .inl q)
end Go.Proofs.Ythaipgbjnigkhaa

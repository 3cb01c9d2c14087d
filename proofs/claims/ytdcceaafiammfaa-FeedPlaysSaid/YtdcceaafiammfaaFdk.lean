import Derived.Test.YtdcceaafiammfaaFdj
namespace Go.Proofs.Ytdcceaafiammfaa
open Go.RowKit
set_option linter.unusedVariables false
set_option linter.unusedSimpArgs false
/-! ### A feed that the call made: what each act leaves -/
structure FS (w cur : World) (fp : Nat) (v : Value) (l : List Item) (cov : Nat) : Prop where
  at' : FeedAt cur fp v l cov
  base : ∀ b, feedX fp v b → w.heap.size ≤ b
  below : Below w.heap.size w cur
theorem FS.read {w cur w' : World} {fp : Nat} {v : Value} {l : List Item} {cov : Nat} (h : FS w cur fp v l cov) (hb : Below cur.heap.size cur w') : FS w w' fp v l cov :=
  ⟨h.at'.below hb, h.base, bl_next h.below hb⟩
theorem FS.wrote {w cur w' : World} {fp : Nat} {v v' : Value} {l l' : List Item} {cov cov' : Nat} (h : FS w cur fp v l cov) (hk : Kept (feedX fp v) cur w') (hf : FeedAt w' fp v' l' cov') (hb : ∀ b, feedX fp v' b → w.heap.size ≤ b) : FS w w' fp v' l' cov' :=
  ⟨hf, hb, h.below.trans (hk.below h.below.size h.base)⟩
theorem feedX_other {w : World} {fp : Nat} {v : Value} {l : List Item} {cov : Nat} (h : FeedAt w fp v l cov) {k : Nat} {c : Array Value} {T : TypeId} (hb : w.heap[k]? = some (.cells c T)) (h1 : T ≠ 80) (h2 : T ≠ 76) : ¬ feedX fp v k := by
  rintro (rfl | hk)
  · rw [h.box] at hb; cases hb; exact h2 rfl
  · rcases h.row.2 with ⟨rfl, _⟩ | ⟨g, cap, cur, rfl, _, hh, _⟩
    · cases hk
    · cases hk
      rw [hh] at hb
      cases hb; exact h1 rfl
theorem new_fs (w cur : World) (hB : Below w.heap.size w cur) : Calls Try.prog 14 #[] cur fun e w' => e = .returned (.pointer (some ⟨cur.heap.size, 0, none⟩)) ∧ FS w w' cur.heap.size (.slice none 0 0) [] 0 ∧ Below cur.heap.size cur w' := by
  refine (fnew_calls cur).mono ?_
  rintro e w' ⟨rfl, hf, hb⟩
  refine ⟨rfl, ⟨hf, fun b hk => ?_, bl_next hB hb⟩, hb⟩
  rcases hk with rfl | hk
  · exact hB.size
  · cases hk
section
variable {w cur : World} {fp : Nat} {v : Value} {l : List Item} {cov : Nat}
theorem grow_fs (h : FS w cur fp v l cov) (hl : l.length ≤ 1000) (k s n : ByteArray) (l' : List Item) (hl' : l ++ [⟨k, s, n, 0⟩] = l') :
    Calls Try.prog 53 #[.pointer (some ⟨fp, 0, none⟩), .agg #[.string k, .string s, .string n]] cur fun e w' => e = .returned (.tuple #[]) ∧ ∃ v', FS w w' fp v' l' cov ∧ Kept (feedX fp v) cur w' := by
  subst hl'
  refine (fgrow_calls cur h.at' (by omega) k s n w.heap.size h.base).mono ?_
  rintro e w' ⟨rfl, v', hf, hk, hb⟩
  exact ⟨rfl, v', h.wrote hk hf hb, hk⟩
theorem drop_fs (h : FS w cur fp v l cov) (hl : l.length ≤ 1000) (i r : Int) (l' : List Item) (hr : dropR l cov i = (r, l')) :
    Calls Try.prog 55 #[.pointer (some ⟨fp, 0, none⟩), .int .i64 i] cur fun e w' => e = .returned (.int .i64 r) ∧ FS w w' fp v l' cov ∧ Kept (feedX fp v) cur w' := by
  refine (fdrop_calls cur h.at' i (by omega)).mono ?_
  rw [hr]
  rintro e w' ⟨rfl, hf, hk⟩
  exact ⟨rfl, h.wrote hk hf h.base, hk⟩
theorem tell_fs (h : FS w cur fp v l cov) (hl : l.length ≤ 1000) (i r : Int) (l' : List Item) (hr : tellR l cov i = (r, l')) :
    Calls Try.prog 54 #[.pointer (some ⟨fp, 0, none⟩), .int .i64 i] cur fun e w' => e = .returned (.int .i64 r) ∧ FS w w' fp v l' cov ∧ Kept (feedX fp v) cur w' := by
  refine (ftell_calls cur h.at' i (by omega)).mono ?_
  rw [hr]
  rintro e w' ⟨rfl, hf, hk⟩
  exact ⟨rfl, h.wrote hk hf h.base, hk⟩
theorem cover_fs (h : FS w cur fp v l cov) (i r : Int) (c' : Nat) (hr : coverR l cov i = (r, c')) :
    Calls Try.prog 25 #[.pointer (some ⟨fp, 0, none⟩), .int .i64 i] cur fun e w' => e = .returned (.int .i64 r) ∧ FS w w' fp v l c' ∧ Kept (feedX fp v) cur w' := by
  refine (fcover_calls cur h.at' i).mono ?_
  rw [hr]
  rintro e w' ⟨rfl, hf, hk⟩
  exact ⟨rfl, h.wrote hk hf h.base, hk⟩
theorem do_fs (h : FS w cur fp v l cov) (hl : l.length ≤ 1000) (a : ActX) (h0 : 0 ≤ a.kind) (h1 : a.kind ≤ 255) (r : Int) (l' : List Item) (c' : Nat) (hr : doR l cov a = (r, l', c')) :
    Calls Try.prog 15 #[.pointer (some ⟨fp, 0, none⟩), actV a] cur fun e w' => e = .returned (.int .i64 r) ∧ ∃ v', FS w w' fp v' l' c' ∧ Kept (feedX fp v) cur w' := by
  refine (do_calls cur h.at' (by omega) a h0 h1 w.heap.size h.base).mono ?_
  rw [hr]
  rintro e w' ⟨rfl, v', hf, hk, hb⟩
  exact ⟨rfl, v', h.wrote hk hf hb, hk⟩
theorem safe_fs (h : FS w cur fp v l cov) (hl : l.length ≤ 1000) (n : Nat) (hn : safeN l cov = n) :
    Calls Try.prog 21 #[.pointer (some ⟨fp, 0, none⟩)] cur fun e w' => e = .returned (.int .i64 n) ∧ FS w w' fp v l cov ∧ Below cur.heap.size cur w' := by
  refine (fsafe_calls cur h.at' (by omega)).mono ?_
  rw [hn]
  rintro e w' ⟨rfl, hb⟩
  exact ⟨rfl, h.read hb, hb⟩
theorem settled_fs (h : FS w cur fp v l cov) (hl : l.length ≤ 1000) (hF : FitK l) (b : Bool) (hn : settledAll l cov = b) :
    Calls Try.prog 23 #[.pointer (some ⟨fp, 0, none⟩)] cur fun e w' => e = .returned (.bool b) ∧ FS w w' fp v l cov ∧ Below cur.heap.size cur w' := by
  refine (fsettledAll_calls cur h.at' (by omega) hF).mono ?_
  rw [hn]
  rintro e w' ⟨rfl, hb⟩
  exact ⟨rfl, h.read hb, hb⟩
theorem len_fs (h : FS w cur fp v l cov) :
    Calls Try.prog 20 #[.pointer (some ⟨fp, 0, none⟩)] cur fun e w' => e = .returned (.int .i64 l.length) ∧ FS w w' fp v l cov ∧ Below cur.heap.size cur w' := by
  refine (flen_calls cur h.at').mono ?_
  rintro e w' ⟨rfl, hb⟩
  exact ⟨rfl, h.read hb, hb⟩
theorem open_fs (h : FS w cur fp v l cov) (hl : l.length ≤ 1000) (xs : List Value) (hx : openP l (openTo l cov l.length) = xs) :
    Calls Try.prog 18 #[.pointer (some ⟨fp, 0, none⟩)] cur fun e w' => ∃ u, e = .returned u ∧ Own w' cur.heap.size 3 u xs ∧ FS w w' fp v l cov ∧ Below cur.heap.size cur w' := by
  refine (fopen_calls cur h.at' (by omega)).mono ?_
  rw [hx]
  rintro e w' ⟨u, rfl, ho, hb⟩
  exact ⟨u, rfl, ho, h.read hb, hb⟩
end
end Go.Proofs.Ytdcceaafiammfaa

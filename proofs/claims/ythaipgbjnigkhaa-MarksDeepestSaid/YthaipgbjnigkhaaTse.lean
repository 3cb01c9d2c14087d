import Derived.Test.YthaipgbjnigkhaaTsd
namespace Go.Proofs.Ythaipgbjnigkhaa
open Go.RowKit Go.Shelf Go.Maps
set_option linter.unusedVariables false
set_option linter.unusedSimpArgs false
/-! ### Rows of texts that stay, while the tree is written -/
def StrT (w : World) (v : Value) (l : List ByteArray) : Prop := ∃ b, w.ownsRow b 9 1 v l.length (strC l)
theorem StrT.strS {w : World} {v : Value} {l : List ByteArray} (h : StrT w v l) : StrS w v l := h.elim fun _ h => strS_of h
theorem StrT.below {w w' : World} {v : Value} {l : List ByteArray} (h : StrT w v l) (hb : Below w.heap.size w w') : StrT w' v l := h.elim fun b h => ⟨b, rw_below h hb⟩
theorem StrT.wrote {w w' : World} {tp mb : Nat} {N : Nodes} {v : Value} {l : List ByteArray} (h : StrT w v l) (ht : TreeAt w tp mb N) (hk : Kept (treeX tp mb) w w') : StrT w' v l := h.elim fun b h => ⟨b, rw_kept h hk (fun k hv hx => by
  rcases hx with rfl | rfl
  · exact rw_other h ht.box (by decide) hv
  · obtain ⟨_, cs, hc⟩ := rw_type h hv
    exact mv_other ht.map hc rfl)⟩
section
variable {w cur : World} {tp mb : Nat} {N : Nodes}
theorem all_to (h : TS w cur tp mb N) (G : Good11 N) (l : List ByteArray) (hl : allN N = l) :
    Calls Try.prog 17 #[.pointer (some ⟨tp, 0, none⟩)] cur fun e w' => ∃ A c, e = .returned (.slice A l.length c) ∧ StrT w' (.slice A l.length c) l ∧ TS w w' tp mb N ∧ Below cur.heap.size cur w' := by
  refine (all_calls cur h.at' G).mono ?_
  rw [hl]
  rintro e w' ⟨v, rfl, hrow, hb⟩
  obtain ⟨A, c, rfl⟩ := rw_form hrow
  exact ⟨A, c, rfl, ⟨_, hrow⟩, h.read hb, hb⟩
theorem children_to (h : TS w cur tp mb N) (G : Good11 N) (s : ByteArray) (l : List ByteArray) (hl : childN N s = l) :
    Calls Try.prog 21 #[.pointer (some ⟨tp, 0, none⟩), .string s] cur fun e w' => ∃ A c, e = .returned (.slice A l.length c) ∧ StrT w' (.slice A l.length c) l ∧ TS w w' tp mb N ∧ Below cur.heap.size cur w' := by
  refine (children_calls cur h.at' G s).mono ?_
  rw [hl]
  rintro e w' ⟨v, rfl, hrow, hb⟩
  obtain ⟨A, c, rfl⟩ := rw_form hrow
  exact ⟨A, c, rfl, ⟨_, hrow⟩, h.read hb, hb⟩
theorem path_to (h : TS w cur tp mb N) (G : Good11 N) (s : ByteArray) (hs : s.size ≤ 1000) (l : List ByteArray) (hl : pathT N s = l) :
    Calls Try.prog 19 #[.pointer (some ⟨tp, 0, none⟩), .string s] cur fun e w' => ∃ A c, e = .returned (.slice A l.length c) ∧ StrT w' (.slice A l.length c) l ∧ TS w w' tp mb N ∧ Below cur.heap.size cur w' := by
  refine (path_calls cur h.at' G s hs).mono ?_
  rw [hl]
  rintro e w' ⟨v, rfl, hrow, hb⟩
  obtain ⟨A, c, rfl⟩ := rw_form hrow
  exact ⟨A, c, rfl, ⟨_, hrow⟩, h.read hb, hb⟩
theorem doT_tk (h : TS w cur tp mb N) (G : Good11 N) (a : ActT) (h0 : 0 ≤ a.kind) (h1 : a.kind ≤ 255) (hs : a.n.size ≤ 1000) (hp : a.o.size ≤ 1000) (r : Int) (M : Nodes) (hr : doT N a = (r, M)) :
    Calls Try.prog 14 #[.pointer (some ⟨tp, 0, none⟩), actVT a] cur fun e w' => e = .returned (.int .i64 r) ∧ TS w w' tp mb M ∧ Kept (treeX tp mb) cur w' := doT_ts h G a h0 h1 hs hp r M hr
end
end Go.Proofs.Ythaipgbjnigkhaa

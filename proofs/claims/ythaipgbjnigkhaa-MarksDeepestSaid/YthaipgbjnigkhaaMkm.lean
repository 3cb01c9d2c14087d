import Derived.Test.YthaipgbjnigkhaaMk2
import Derived.Test.YthaipgbjnigkhaaSt
import Derived.Test.YthaipgbjnigkhaaTsc
import Derived.Test.YthaipgbjnigkhaaTtg
namespace Go.Proofs.Ythaipgbjnigkhaa
open Go.RowKit Go.Shelf Go.Maps
set_option linter.unusedVariables false
set_option linter.unusedSimpArgs false
set_option linter.unusedSectionVars false
/-! ### Trees, marks and the reference's tree as things of a state -/
def thT (tp mb : Nat) (N : Nodes) : Th := ⟨treeX tp mb, fun w => TreeAt w tp mb N, fun h hk hx => h.kept hk hx, fun h k hk => by
  rcases hk with rfl | rfl
  · exact h.lt.1
  · exact h.lt.2⟩
def thM (mp kb : Nat) (N : Nodes) : Th := ⟨treeX mp kb, fun w => MarksAt w mp kb N, fun h hk hx => h.kept hk hx, fun h k hk => by
  rcases hk with rfl | rfl
  · exact blk_lt h.box
  · exact h.map.lt⟩
def thR (base rp : Nat) (v : Value) (N : Nodes) : Th := ⟨refTX rp v, fun w => RefT w base rp v N, fun h hk hx => h.kept hk hx, fun h k hk => by
  rcases hk with rfl | hk
  · exact blk_lt h.box
  · exact (World.ownsRow.lt h.row k hk).2⟩
section
variable {w cur w' : World} {l : List Th} {tp mb mp kb base rp : Nat} {N T : Nodes} {v : Value}
theorem St.tree (S : St w cur l) (i : Nat) (h : l[i]? = some (thT tp mb N)) : TreeAt cur tp mb N := S.get i h
theorem St.marks (S : St w cur l) (i : Nat) (h : l[i]? = some (thM mp kb N)) : MarksAt cur mp kb N := S.get i h
theorem St.ref (S : St w cur l) (i : Nat) (h : l[i]? = some (thR base rp v N)) : RefT cur base rp v N := S.get i h
theorem tnew_st (S : St w cur l) : Calls Try.prog 12 #[] cur fun e w' => ∃ tp mb, e = .returned (.pointer (some ⟨tp, 0, none⟩)) ∧ St w w' (l ++ [thT tp mb [(rootB, ⟨#[]⟩)]]) ∧ Below cur.heap.size cur w' := by
  refine (tnew_calls cur).mono ?_
  rintro e w' ⟨tp, mb, rfl, ht, ⟨h1, h2⟩, hb⟩
  exact ⟨tp, mb, rfl, S.add _ hb ht (by rintro k (rfl | rfl) <;> assumption), hb⟩
theorem create_st (S : St w cur l) (i : Nat) (h : l[i]? = some (thT tp mb N)) (G : Good11 N) (s p : ByteArray) (hs : s.size ≤ 1000) (hp : p.size ≤ 1000) (r : Int) (M : Nodes) (hr : createR N s p = (r, M)) :
    Calls Try.prog 31 #[.pointer (some ⟨tp, 0, none⟩), .string s, .string p] cur fun e w' => e = .returned (.int .i64 r) ∧ St w w' (l.set i (thT tp mb M)) ∧ Kept (treeX tp mb) cur w' := by
  refine (create_calls cur (S.tree i h) G s p hs hp).mono ?_
  rw [hr]
  rintro e w' ⟨rfl, ht, hk⟩
  exact ⟨rfl, S.write i h _ hk (fun _ q => .inl q) ht (fun _ q => .inl q), hk⟩
theorem doT_st (S : St w cur l) (i : Nat) (h : l[i]? = some (thT tp mb N)) (G : Good11 N) (a : ActT) (h0 : 0 ≤ a.kind) (h1 : a.kind ≤ 255) (hs : a.n.size ≤ 1000) (hp : a.o.size ≤ 1000) (r : Int) (M : Nodes) (hr : doT N a = (r, M)) :
    Calls Try.prog 14 #[.pointer (some ⟨tp, 0, none⟩), actVT a] cur fun e w' => e = .returned (.int .i64 r) ∧ St w w' (l.set i (thT tp mb M)) ∧ Kept (treeX tp mb) cur w' := by
  have hS : TS w cur tp mb N := ⟨S.tree i h, ⟨S.ge i _ h _ (.inl rfl), S.ge i _ h _ (.inr rfl)⟩, S.below⟩
  refine (doT_ts hS G a h0 h1 hs hp r M hr).mono ?_
  rintro e w' ⟨rfl, ht, hk⟩
  exact ⟨rfl, S.write i h _ hk (fun _ q => .inl q) ht.at' (fun _ q => .inl q), hk⟩
theorem st_both (S : TS w cur tp mb T) (R : RefT cur w.heap.size rp v T) : St w cur [thT tp mb T, thR w.heap.size rp v T] := by
  have hcase : ∀ i t, [thT tp mb T, thR w.heap.size rp v T][i]? = some t → (i = 0 ∧ t = thT tp mb T) ∨ (i = 1 ∧ t = thR w.heap.size rp v T) := by
    rintro (_ | _ | i) t h
    · exact .inl ⟨rfl, (Option.some.inj h).symm⟩
    · exact .inr ⟨rfl, (Option.some.inj h).symm⟩
    · cases h
  refine ⟨S.below, fun i t h => ?_, fun i t h k hk => ?_, fun i j a b hij ha hb k hka hkb => ?_⟩
  · rcases hcase i t h with ⟨_, rfl⟩ | ⟨_, rfl⟩
    · exact S.at'
    · exact R
  · rcases hcase i t h with ⟨_, rfl⟩ | ⟨_, rfl⟩
    · exact S.ge k hk
    · exact R.ge k hk
  · rcases hcase i a ha with ⟨rfl, rfl⟩ | ⟨rfl, rfl⟩ <;> rcases hcase j b hb with ⟨rfl, rfl⟩ | ⟨rfl, rfl⟩
    · exact hij rfl
    · exact treeX_ref R S.at' k hka hkb
    · exact treeX_ref R S.at' k hkb hka
    · exact hij rfl
theorem mnew_st (S : St w cur l) : Calls Try.prog 50 #[] cur fun e w' => ∃ mp kb, e = .returned (.pointer (some ⟨mp, 0, none⟩)) ∧ St w w' (l ++ [thM mp kb []]) ∧ Below cur.heap.size cur w' := by
  refine (mnew_calls cur).mono ?_
  rintro e w' ⟨mp, kb, rfl, hm, ⟨h1, h2⟩, hb⟩
  exact ⟨mp, kb, rfl, S.add _ hb hm (by rintro k (rfl | rfl) <;> assumption), hb⟩
theorem mark_st (S : St w cur l) (i : Nat) (h : l[i]? = some (thM mp kb N)) (hR : Rising N) {v : Value} {ns : List ByteArray} (hv : StrS cur v ns) (hl : N.length + ns.length ≤ 1000000) (hs : ∀ x ∈ ns, x.size ≤ 1000000) (M : Nodes) (hM : markAll N ns = M) :
    Calls Try.prog 52 #[.pointer (some ⟨mp, 0, none⟩), v] cur fun e w' => e = .returned (.int .i64 0) ∧ St w w' (l.set i (thM mp kb M)) ∧ Kept (treeX mp kb) cur w' := by
  refine (mmark_calls cur (S.marks i h) hR hv hl hs).mono ?_
  rw [hM]
  rintro e w' ⟨rfl, hm, hk⟩
  exact ⟨rfl, S.write i h _ hk (fun _ q => .inl q) hm (fun _ q => .inl q), hk⟩
theorem clear_st (S : St w cur l) (i : Nat) (h : l[i]? = some (thM mp kb N)) (hR : Rising N) (s : ByteArray) (hs : s.size ≤ 1000000) (r : Int) (M : Nodes) (hM : clearN N s = (r, M)) :
    Calls Try.prog 55 #[.pointer (some ⟨mp, 0, none⟩), .string s] cur fun e w' => e = .returned (.int .i64 r) ∧ St w w' (l.set i (thM mp kb M)) ∧ Kept (treeX mp kb) cur w' := by
  refine (mclear_calls cur (S.marks i h) hR s hs).mono ?_
  rw [hM]
  rintro e w' ⟨rfl, hm, hk⟩
  exact ⟨rfl, S.write i h _ hk (fun _ q => .inl q) hm (fun _ q => .inl q), hk⟩
theorem StrS.marked {ns : List ByteArray} {u : Value} (hu : StrS cur u ns) (S : St w cur l) (i : Nat) (h : l[i]? = some (thM mp kb N)) (hk : Kept (treeX mp kb) cur w') : StrS w' u ns := by
  have hm := S.marks i h
  obtain ⟨A, c, rfl, hc, h0 | ⟨b, off, rfl, hx⟩⟩ := hu
  · exact ⟨A, c, rfl, hc, .inl h0⟩
  · refine ⟨_, c, rfl, hc, .inr ⟨b, off, rfl, fun j hj => hk.cell (hx j hj) (fun q => ?_)⟩⟩
    have h1 := hx j hj
    rcases q with q | q
    · change b = mp at q
      subst q
      rw [blk_cell hm.box] at h1
      rcases Nat.eq_zero_or_pos (off + j) with e | e
      · rw [e] at h1; cases h1
      · rw [show off + j = (off + j - 1) + 1 by omega] at h1; cases h1
    · change b = kb at q
      subst q
      obtain ⟨es, clock, hb, _⟩ := hm.map
      simp [World.cell?, hb] at h1
end
end Go.Proofs.Ythaipgbjnigkhaa

import Derived.Test.YthaipgbjnigkhaaMkq
namespace Go.Proofs.Ythaipgbjnigkhaa
open Go.RowKit Go.Shelf Go.Maps
set_option linter.unusedVariables false
set_option linter.unusedSimpArgs false
set_option linter.unusedSectionVars false
attribute [local go_sem] Oper.semAt_some
/-! ### Names of any length -/
theorem has_callsM {tp mb : Nat} {N : Nodes} (w : World) (h : TreeAt w tp mb N) (s : ByteArray) (hs : s.size ≤ maxLen) :
    Calls Try.prog 25 #[.pointer (some ⟨tp, 0, none⟩), .string s] w fun e w' => e = .returned (.bool (hasN N s)) ∧ Below w.heap.size w w' := by
  have hB := Below.refl w.heap.size w
  have c0 := blk_cell h.box 0
  have hl : (Instr.lookup 84 (.map (some mb)) (.string s) true).run Try.prog w = .ok (.tuple #[.string (parN N s), .bool (hasN N s)]) w := by
    rw [mv_look_ok h.map string_key Try.underlying84 (zero_string w) (keyS hs), val_dm, has_dm]
  clear h hs
  go_enter Try.func25, Try.ntmps25
  go_wp2
  go_ret
  exact ⟨rfl, hB⟩
theorem upN_in (n : Nat) (hn : 1 ≤ n) (l0 eb fx tp mb : Nat) (N : Nodes) (s : ByteArray) (hs : s.size ≤ maxLen) (hh : hasN N s = false) (J Jx : List (Fin 0) → World → Prop) (B : Nat) (hJ : AbidesFrom B J)
    (W : World) (he : W.cell? ⟨eb, 0, none⟩ = some (.string s)) (hf : W.cell? ⟨fx, 0, none⟩ = some (.pointer (some ⟨tp, 0, none⟩))) (hF : TreeAt W tp mb N) (h0 : J [] W) :
    CallsIn Fence.wide n Try.prog 92 #[.func (.yield l0) #[] #[], .pointer (some ⟨eb, 0, none⟩), .pointer (some ⟨fx, 0, none⟩)] W fun e W' => (∃ v, e = .returned v) ∧
      ((∃ ys, True ∧ J ys W') ∨ (∃ pre, False ∧ Jx pre W')) := by
  have HF := Lib.hid hF; have HH := Lib.hid hh; have HS := Lib.hid hs
  clear hF hh hs
  refine callsIn_of_wp Try.func92 rfl trivial ?_ rfl
  simp only [Try.ntmps92, List.size_toArray, List.length_cons, List.length_nil, Nat.reduceAdd, Nat.reduceSub, Array.replicate_succ, Array.replicate_zero, List.push_toArray, List.append_toArray, List.nil_append, List.cons_append]
  gi_wp2
  gi_loopw [4] (fun v wr => v = .string s ∧ wr = W) (fun v _ => 0)
  case atStart => exact ⟨rfl, rfl⟩
  case round =>
    obtain ⟨rfl, rfl⟩ := hrel
    gi_wp2_with (refine ⟨trivial, ?_⟩; gi_at_call 25; refine (callsIn_wide.2 (has_callsM _ HF.out s HS.out)).mono ?_; rintro e w' ⟨rfl, hb⟩; rw [HH.out])
    have hJ1 := hJ _ _ _ none h0 ⟨hb.os, hb.tape, hb.output, hb.size, fun k hk _ => hb.block k hk⟩ (fun r e => by cases e)
    go_end0
    exact ⟨⟨_, rfl⟩, .inl ⟨_, trivial, hJ1⟩⟩
theorem upN_stops (n : Nat) (hn : 1 ≤ n) (eb fx tp mb : Nat) (N : Nodes) (s : ByteArray) (hs : s.size ≤ maxLen) (hh : hasN N s = false) (w : World) (he : w.cell? ⟨eb, 0, none⟩ = some (.string s)) (hf : w.cell? ⟨fx, 0, none⟩ = some (.pointer (some ⟨tp, 0, none⟩))) (hF : TreeAt w tp mb N) :
    SeqStopsK Fence.wide n Try.prog 92 #[.pointer (some ⟨eb, 0, none⟩), .pointer (some ⟨fx, 0, none⟩)] (fun x : Fin 0 => #[Value.string ⟨#[]⟩]) (fun _ _ => True) (fun ys => True) (fun pre => False) 0 w :=
  fun l0 J Jx W hW hJ _ _ h0 => upN_in n hn l0 eb fx tp mb N s hs hh J Jx _ hJ W (cb hW he) (cb hW hf) (hF.below hW) h0
set_option maxRecDepth 100000 in
set_option maxHeartbeats 4000000 in
theorem path_none {tp mb : Nat} {N : Nodes} (w : World) (h : TreeAt w tp mb N) (s : ByteArray) (hs : s.size ≤ maxLen) (hh : hasN N s = false) : Calls Try.prog 19 #[.pointer (some ⟨tp, 0, none⟩), .string s] w fun e w' => e = .returned (.slice none 0 0) ∧ Below w.heap.size w w' := by
  have H := Lib.hid h
  have HH := Lib.hid hh; have HS := Lib.hid hs
  clear h hh hs
  refine (callsIn_wide (n := 6)).1 ?_
  refine callsIn_of_wp_marks Try.func19 rfl trivial ?_ rfl
  simp only [Try.ntmps19, List.size_toArray, List.length_cons, List.length_nil, Nat.reduceAdd, Nat.reduceSub, Array.replicate_succ, Array.replicate_zero, List.push_toArray, List.append_toArray, List.nil_append, List.cons_append]
  refine wpIn_wide.2 ?_
  go_upto_region 2 with fail
  first | with_reducible refine name_wp ?_ | with_reducible refine name_calls ?_
  intro W hWeq
  have g0 : W.heap[w.heap.size]? = some (.cells #[.slice none 0 0] 35) := by rw [hWeq]; repeat (first | (with_reducible exact blk_newAt _ _ (by simp)) | with_reducible refine blk_drew ?_ | with_reducible refine blk_dN ?_ _ | with_reducible refine blk_old ?_ _)
  have hw : Below w.heap.size w W := by rw [hWeq]; repeat (first | with_reducible exact Below.refl _ _ | with_reducible refine Below.drew ?_ | with_reducible refine bl_dN ?_ _ | with_reducible refine Below.alloc ?_ (by simp <;> omega) _)
  clear hWeq
  have hz : w.heap.size + 1 ≤ W.heap.size := by have := blk_lt g0; omega
  have c0_0 : W.cell? ⟨w.heap.size, 0, none⟩ = some (.slice none 0 0) := blk_cell g0 0
  have f0 : ∀ j, W.frozen? ⟨w.heap.size, j, none⟩ = false := blk_free g0
  have hB : Below W.heap.size W W := Below.refl _ _
  have G0 := Lib.hid g0; clear g0
  have F0 := Lib.hid f0; clear f0
  have Hw := Lib.hid hw; clear hw
  have HW := Lib.hid (H.out.below Hw.out)
  go_wp2_with (go_at_call 65; refine (up_calls _ _ s).mono ?_; rintro e w' ⟨rfl, q0, q1, qz, hb⟩; have hB := bl_next hB hb; clear hb)
  obtain ⟨V, rfl⟩ : ∃ V : World, V = w' := ⟨_, rfl⟩
  refine (wpIn_wide (n := 5)).1 ?_
  have k0_0 := cb hB c0_0
  have HV := HW.out.below hB
  have hWz : w.heap.size + 1 ≤ W.heap.size := by have := blk_lt G0.out; omega
  have hVw : W.heap.size + 2 ≤ V.heap.size := qz
  refine wpIn_rangeFunc_ownF rfl (by decide) (gf := 92) rfl trivial (enters_of Try.func92 (by kernel_rfl) rfl)
    (upN_stops 4 (by decide) _ _ tp mb N s HS.out HH.out V q1 q0 HV) (fun _ _ => trivial) (fun _ _ _ _ _ _ _ _ => trivial) (Below.refl _ _) (fun _ => rfl)
    (fun pre U => U.cell? ⟨w.heap.size, 0, none⟩ = some (.slice none 0 0) ∧ Below w.heap.size w U)
    (fun c pre U => False)
    ?hI ?hIx ?h0 ?a1 ?assign ?body ?done ?stop
  case assign =>
    intro l1 x U K hK
    exact x.elim0
  case a1 => exact fun x => x.elim0
  case hI => exact OwnFrom.and (Own.from (fun s A B row hs hg hr => cell_kept hs hg hr) _) (ownFrom_below (Nat.le_refl _) (by omega))
  case hIx =>
    intro c s A B row hs _ _
    exact hs.elim
  case h0 => exact ⟨k0_0, bl_from Hw.out hB⟩
  case body =>
    intro l1 pre x
    exact x.elim0
  case done =>
    rintro D xs U hD hxs ⟨hc, hbU⟩ hK
    go_wp2
    refine ⟨by simp, .inl ⟨_, _, rfl, run_takeDeferred hK, ?_⟩⟩
    exact ⟨_, results_tmp rfl _ _ _, rfl, hbU.grown (grownBy_putObj' _ D (.deferred none)) hbU.size (fun k e => by cases e; omega)⟩
  case stop =>
    rintro D c pre U hD hsp hf _
    exact hf.elim
theorem path_any {tp mb : Nat} {N : Nodes} (w : World) (h : TreeAt w tp mb N) (G : Good11 N) (s : ByteArray) (hs : s.size ≤ maxLen) (p : List ByteArray) (hp : pathT N s = p) :
    Calls Try.prog 19 #[.pointer (some ⟨tp, 0, none⟩), .string s] w fun e w' => ∃ A c, e = .returned (.slice A p.length c) ∧ StrS w' (.slice A p.length c) p ∧ Below w.heap.size w w' := by
  cases hh : hasN N s with
  | true =>
    refine (path_calls w h G s (by have := good_size G hh; omega)).mono ?_
    rw [hp]
    rintro e w' ⟨v, rfl, hrow, hb⟩
    have hv := strS_of hrow
    obtain ⟨A, c, rfl⟩ := hv.form
    exact ⟨A, c, rfl, hv, hb⟩
  | false =>
    refine (path_none w h s hs hh).mono ?_
    rw [G.path s, hh] at hp
    subst hp
    rintro e w' ⟨rfl, hb⟩
    exact ⟨_, _, rfl, strS_nil _, hb⟩
def kStrM : Kd ByteArray where
  sz := 1
  K := fun _ _ x cs => cs = [.string x] ∧ x.size ≤ maxLen
  len := fun h => by rw [h.1]; rfl
  bound := fun h => h
  move := fun _ h => h
  mono := fun _ h => h
theorem opens_strM {P : Program} {t : TypeId} (ht : P.underlying t = some .string) (hc : P.cellsOf t = 1) : Opens P t kStrM :=
  ⟨hc, fun enc w base spare held fuel cs x h => by obtain ⟨s, rfl, _, hs⟩ := DataW.trod_string ht h; exact ⟨s, rfl, hs⟩⟩
theorem opStrsM : Opens Try.prog 35 (kSlice kStrM) := opens_slice Try.underlying35 (by kernel_rfl) (by decide) (opens_strM Try.underlying9 (by kernel_rfl))
theorem strS_rowM {w : World} {ok : Nat → Prop} {A : Option Addr} {c : Nat} {xs : List ByteArray} (hc : xs.length ≤ c) (h : Row kStrM w ok A xs) : StrS w (.slice A xs.length c) xs ∧ ∀ x ∈ xs, x.size ≤ maxLen := by
  rcases h with h | ⟨b, off, hA, _, _, hr⟩
  · exact ⟨⟨A, c, rfl, hc, .inl h⟩, by rw [h]; rintro x ⟨⟩⟩
  · refine ⟨⟨A, c, rfl, hc, .inr ⟨b, off, hA, fun j hj => ?_⟩⟩, fun x hx => ?_⟩
    · obtain ⟨cs, hcs, hk⟩ := hr j hj
      obtain ⟨rfl, _⟩ : cs = [.string (xs[j]'hj)] ∧ _ := hk
      have := hcs 0 _ rfl
      rw [show kStrM.sz = 1 from rfl, Nat.mul_one, Nat.add_zero] at this
      exact this
    · obtain ⟨j, hj, rfl⟩ := List.getElem_of_mem hx
      obtain ⟨cs, hcs, hk⟩ := hr j hj
      exact hk.2
end Go.Proofs.Ythaipgbjnigkhaa

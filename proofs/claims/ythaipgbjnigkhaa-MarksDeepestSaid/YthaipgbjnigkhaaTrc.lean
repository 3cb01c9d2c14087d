import Derived.RangeFuncNested
import Derived.RangeFuncBound
import Derived.RangeFuncCalls
import Derived.RangeFuncLeaves
import Derived.RangeFuncBox
import Derived.Shelf.Abstract
import Derived.Shelf.RegionOpen
import Derived.WalkKit
import Derived.OwnWalkIn
import Derived.TacticsInMore
import Derived.LoopNIn
import Derived.LoopIn
import Derived.Maps.AppendAt
import Derived.Test.YthaipgbjnigkhaaProg
import Derived.Test.YthaipgbjnigkhaaTrm
import Derived.Test.YthaipgbjnigkhaaSeqIn
import Derived.Test.YthaipgbjnigkhaaTree
namespace Go.Proofs.Ythaipgbjnigkhaa
open Go.RowKit Go.Shelf
set_option linter.unusedVariables false
set_option linter.unusedSimpArgs false
attribute [local go_sem] Oper.semAt_some
theorem fzb {W w1 : World} (hb : Below W.heap.size W w1) {a : Addr} (ha : a.block < W.heap.size) (h : W.frozen? a = false) : w1.frozen? a = false := fb hb ha h
theorem ba_eq {a b : ByteArray} : a.toList = b.toList ↔ a = b := ⟨fun h => by rw [Lib.toList_data, Lib.toList_data] at h; exact ByteArray.ext (Array.toList_inj.1 h), fun h => by rw [h]⟩
theorem has_calls {tp mb : Nat} {N : Nodes} (w : World) (h : TreeAt w tp mb N) (s : ByteArray) (hs : s.size ≤ 1000000) :
    Calls Try.prog 25 #[.pointer (some ⟨tp, 0, none⟩), .string s] w fun e w' => e = .returned (.bool (hasN N s)) ∧ Below w.heap.size w w' := by
  have hB := Below.refl w.heap.size w
  have c0 := blk_cell h.box 0
  have hl := tree_look_ok h hs
  clear h
  go_enter Try.func25, Try.ntmps25
  go_wp2
  go_ret
  exact ⟨rfl, hB⟩
theorem has_nil (w : World) (s : ByteArray) :
    Calls Try.prog 25 #[.pointer none, .string s] w fun e w' => e = .returned (.bool false) ∧ Below w.heap.size w w' := by
  have hB := Below.refl w.heap.size w
  go_enter Try.func25, Try.ntmps25
  go_wp2
  go_ret
  exact ⟨rfl, hB⟩
theorem parent_calls {tp mb : Nat} {N : Nodes} (w : World) (h : TreeAt w tp mb N) (s : ByteArray) (hs : s.size ≤ 1000000) :
    Calls Try.prog 27 #[.pointer (some ⟨tp, 0, none⟩), .string s] w fun e w' => e = .returned (.string (parN N s)) ∧ Below w.heap.size w w' := by
  have hB := Below.refl w.heap.size w
  have c0 := blk_cell h.box 0
  have hl := tree_look h hs
  clear h
  go_enter Try.func27, Try.ntmps27
  go_wp2
  go_ret
  exact ⟨rfl, hB⟩
theorem parent_nil (w : World) (s : ByteArray) :
    Calls Try.prog 27 #[.pointer none, .string s] w fun e w' => e = .returned (.string ⟨#[]⟩) ∧ Below w.heap.size w w' := by
  have hB := Below.refl w.heap.size w
  go_enter Try.func27, Try.ntmps27
  go_wp2
  go_ret
  exact ⟨rfl, hB⟩
theorem par_size {N : Nodes} (G : Good11 N) (s : ByteArray) : (parN N s).size ≤ 100 := by
  cases k : hasN N s with
  | true => exact (G.fit _ _ (parN_mem k)).2
  | false => rw [parN_none k]; exact Nat.zero_le _
def lenS (N : Nodes) (v : Value) : Nat := match v with | .string x => (pathT N x).length | _ => 0
set_option maxRecDepth 100000 in
set_option maxHeartbeats 2000000 in
theorem up1_in (n : Nat) (hn : 1 ≤ n) (X : Nat → Prop) (l0 eb fx tp mb : Nat) (N : Nodes) (G : Good11 N) (s : ByteArray) (hs : s.size ≤ 1000) (J Jx : List ByteArray → World → Prop) (B : Nat) (hJ : AbidesFrom B J)
    (hY : ∀ pre x W, J pre W → pre.length < 8 → YieldAt Fence.wide (n - 1) Try.prog l0 #[.string x] W fun e W' => (e = .returned (.bool true) ∧ J (pre ++ [x]) W' ∧ Kept X W W') ∨ (e = .returned (.bool false) ∧ Jx (pre ++ [x]) W'))
    (W : World) (he : W.cell? ⟨eb, 0, none⟩ = some (.string s)) (hf : W.cell? ⟨fx, 0, none⟩ = some (.pointer (some ⟨tp, 0, none⟩))) (hF : TreeAt W tp mb N) (hx2 : ¬ X fx) (hx3 : ∀ k, treeX tp mb k → ¬ X k) (h0 : J [] W) :
    CallsIn Fence.wide n Try.prog 92 #[.func (.yield l0) #[] #[], .pointer (some ⟨eb, 0, none⟩), .pointer (some ⟨fx, 0, none⟩)] W fun e W' => (∃ v, e = .returned v) ∧
      ((∃ ys, ys = pathT N s ∧ J ys W') ∨ (∃ pre, True ∧ Jx pre W')) := by
  refine callsIn_of_wp Try.func92 rfl trivial ?_ rfl
  simp only [Try.ntmps92, List.size_toArray, List.length_cons, List.length_nil, Nat.reduceAdd, Nat.reduceSub, Array.replicate_succ, Array.replicate_zero, List.push_toArray, List.append_toArray, List.nil_append, List.cons_append]
  gi_wp2
  gi_loopw [4] (fun v wr => ∃ (x : ByteArray) (ys : List ByteArray), v = .string x ∧ x.size ≤ 1000 ∧ Hid (ys ++ pathT N x = pathT N s) ∧ J ys wr ∧ Kept X W wr) (fun v _ => lenS N v)
  case atStart => exact ⟨s, [], rfl, hs, Lib.hid rfl, h0, Kept.refl _ _⟩
  case round =>
    obtain ⟨x, ys, rfl, hx, HYS, hJs, hnx⟩ := hrel
    have hfc : wr.cell? ⟨fx, 0, none⟩ = some (.pointer (some ⟨tp, 0, none⟩)) := hnx.cell hf hx2
    have hFr : TreeAt wr tp mb N := hF.kept hnx hx3
    have HFR := Lib.hid hFr
    have HP := Lib.hid (G.path x)
    have HDEEP := Lib.hid (G.deep s)
    clear hFr
    cases hh : hasN N x with
    | true =>
      have HH := Lib.hid hh
      have hP2 := HP.out
      rw [hh, if_pos rfl] at hP2
      have hlen : ys.length < 8 := by have := congrArg List.length HYS.out; have h8 := HDEEP.out; rw [List.length_append, hP2, List.length_cons] at this; omega
      have HP2 := Lib.hid hP2
      have hps := par_size G x
      clear hh hP2
      gi_wp2_with (refine ⟨trivial, ?_⟩; gi_at_call 25; refine (callsIn_wide.2 (has_calls _ HFR.out x (by omega))).mono ?_; rintro e w' ⟨rfl, hb⟩; rw [HH.out]; have hJ1 := hJ _ _ _ none hJs ⟨hb.os, hb.tape, hb.output, hb.size, fun k hk _ => hb.block k hk⟩ (fun r e => by cases e); obtain ⟨fn, tmps, assign, body, hy, hR⟩ := hY _ x w' hJ1 hlen)
      have hnx1 : Kept X W w' := hnx.trans (kept_of_below (X := X) hb) (fun _ h => .inl h)
      refine hR.mono ?_
      rintro e W3 (⟨rfl, hJ3, hk3⟩ | ⟨rfl, hJx3⟩)
      · have hnx3 := hnx1.trans hk3 (fun _ h => .inl h)
        have hfc3 : W3.cell? ⟨fx, 0, none⟩ = some (.pointer (some ⟨tp, 0, none⟩)) := hnx3.cell hf hx2
        have hF3 : TreeAt W3 tp mb N := hF.kept hnx3 hx3
        have c3 := blk_cell hF3.box 0
        have hlk := tree_look hF3 (s := x) (by omega)
        clear hF3
        gi_wp2
        go_roundw
        case rel => exact ⟨_, ys ++ [x], rfl, by omega, Lib.hid (by rw [List.append_assoc, List.singleton_append, ← HP2.out]; exact HYS.out), hJ3, hnx3⟩
        case measure => show (pathT N (parN N x)).length < (pathT N x).length; rw [HP2.out]; simp
      · gi_wp2
        refine bodyPost_ret (results_none rfl _ _ _) rfl ?_
        exact ⟨⟨_, rfl⟩, .inr ⟨_, trivial, hJx3⟩⟩
    | false =>
      have HH := Lib.hid hh
      have hP2 := HP.out
      rw [hh, if_neg (by simp)] at hP2
      have HP2 := Lib.hid hP2
      clear hh hP2
      gi_wp2_with (refine ⟨trivial, ?_⟩; gi_at_call 25; refine (callsIn_wide.2 (has_calls _ HFR.out x (by omega))).mono ?_; rintro e w' ⟨rfl, hb⟩; rw [HH.out])
      have hJ1 := hJ _ _ _ none hJs ⟨hb.os, hb.tape, hb.output, hb.size, fun k hk _ => hb.block k hk⟩ (fun r e => by cases e)
      go_end0
      exact ⟨⟨_, rfl⟩, .inl ⟨ys, by have := HYS.out; rw [HP2.out, List.append_nil] at this; exact this, hJ1⟩⟩
theorem up_calls (w : World) (tp : Option Addr) (s : ByteArray) : Calls Try.prog 65 #[.pointer tp, .string s] w fun e w' => e = .returned (.func (.func 92) #[] #[.pointer (some ⟨w.heap.size + 1, 0, none⟩), .pointer (some ⟨w.heap.size, 0, none⟩)]) ∧
    w'.cell? ⟨w.heap.size, 0, none⟩ = some (.pointer tp) ∧ w'.cell? ⟨w.heap.size + 1, 0, none⟩ = some (.string s) ∧ w.heap.size + 2 ≤ w'.heap.size ∧ Below w.heap.size w w' := by
  have hB := Below.refl w.heap.size w
  have hmf : ∀ (fn : Fn) (first cap : Array Value) (w : World), (Instr.makeFunc fn first cap).run Try.prog w = .ok (.func fn first cap) w := fun _ _ _ _ => rfl
  go_enter Try.func65, Try.ntmps65
  go_wp2
  go_ret
  exact ⟨rfl, blk_cell (blk_old (blk_new w _) _) 0, blk_cell (blk_new1 w _ _) 0, by simp, (hB.alloc (Nat.le_refl _) _).alloc (by simp) _⟩
theorem up_stops (X : Nat → Prop) (n : Nat) (hn : 1 ≤ n) (eb fx tp mb : Nat) (N : Nodes) (G : Good11 N) (s : ByteArray) (hs : s.size ≤ 1000)
    (w : World) (he : w.cell? ⟨eb, 0, none⟩ = some (.string s)) (hf : w.cell? ⟨fx, 0, none⟩ = some (.pointer (some ⟨tp, 0, none⟩))) (hF : TreeAt w tp mb N) (hx2 : ¬ X fx) (hx3 : ∀ k, treeX tp mb k → ¬ X k) :
    SeqStopsK Fence.wide n Try.prog 92 #[.pointer (some ⟨eb, 0, none⟩), .pointer (some ⟨fx, 0, none⟩)] (fun x : ByteArray => #[Value.string x]) (Kept X) (fun ys => ys = pathT N s) (fun pre => True) 8 w :=
  fun l0 J Jx W hW hJ hJx hY h0 => up1_in n hn X l0 eb fx tp mb N G s hs J Jx _ hJ hY W (cb hW he) (cb hW hf) (hF.below hW) hx2 hx3 h0
theorem keptK_t {X : Nat → Prop} {A B C : World} (h : Kept X A B) (k : Kept X B C) : Kept X A C := h.trans k (fun _ h => .inl h)
theorem keptK_b {X : Nat → Prop} {w : World} (hX : ∀ k, w.heap.size ≤ k → X k) (W : World) (l : Nat) (o o' : Obj) (hl : w.heap.size ≤ l) (h : W.heap[l]? = some o) (_ : o.isCells = false) (_ : o.isWalk = false) : Kept X W (W.putObj l o') :=
  (Kept.refl X W).grown (grownBy_putObj' W l o') (fun k e => by cases e; exact .inl (hX _ hl))
def strC (l : List ByteArray) : List Value := l.map fun s => .string s
theorem strC_length (l : List ByteArray) : (strC l).length = l.length := by simp [strC]
theorem strC_one (l : List ByteArray) : ∀ u ∈ strC l, u.oneCell' = true := by
  intro u hu; unfold strC at hu; obtain ⟨x, _, rfl⟩ := List.mem_map.1 hu; rfl
theorem strC_getD {l : List ByteArray} {i : Nat} (h : i < l.length) : (strC l).getD i undef = .string (l[i]'h) := by
  unfold strC; rw [List.getD_eq_getElem?_getD, List.getElem?_map, List.getElem?_eq_getElem h]; rfl
theorem info_string : (Try.prog.info? 9).map (fun i => (i.zero, i.size, i.bytes)) = some (some (.string ⟨#[]⟩), 1, 16) := by kernel_rfl
set_option maxRecDepth 100000 in
set_option maxHeartbeats 4000000 in
theorem path_calls {tp mb : Nat} {N : Nodes} (w : World) (h : TreeAt w tp mb N) (G : Good11 N) (s : ByteArray) (hs : s.size ≤ 1000) :
    Calls Try.prog 19 #[.pointer (some ⟨tp, 0, none⟩), .string s] w fun e w' => ∃ v, e = .returned v ∧ w'.ownsRow w.heap.size 9 1 v (pathT N s).length (strC (pathT N s)) ∧ Below w.heap.size w w' := by
  have H := Lib.hid h
  have hlt := Lib.hid h.lt
  obtain ⟨i0, hi, hz0, hz1, hz2⟩ := info_parts info_string
  clear h
  refine (callsIn_wide (n := 6)).1 ?_
  refine callsIn_of_wp_marks Try.func19 rfl trivial ?_ rfl
  simp only [Try.ntmps19, List.size_toArray, List.length_cons, List.length_nil, Nat.reduceAdd, Nat.reduceSub, Array.replicate_succ, Array.replicate_zero, List.push_toArray, List.append_toArray, List.nil_append, List.cons_append]
  refine wpIn_wide.2 ?_
  go_upto_region 2 with fail
  first | with_reducible refine name_wp ?_ | with_reducible refine name_calls ?_
  intro W hWeq
  have g0 : W.heap[w.heap.size]? = some (.cells #[.slice none 0 0] 35) := by rw [hWeq]; repeat (first | (with_reducible exact blk_newAt _ _ (by simp)) | with_reducible refine blk_drew ?_ | with_reducible refine blk_dN ?_ _ | with_reducible refine blk_old ?_ _)
  have hw : Below w.heap.size w W := by rw [hWeq]; repeat (first | with_reducible exact Below.refl _ _ | with_reducible refine Below.drew ?_ | with_reducible refine bl_dN ?_ _ | with_reducible refine Below.alloc ?_ (by simp <;> omega) _)
  clear hWeq
  have hz : w.heap.size + 1 ≤ W.heap.size := by have := blk_lt g0; omega
  have c0_0 : W.cell? ⟨w.heap.size, 0, none⟩ = some (.slice none 0 0) := blk_cell g0 0
  have f0 : ∀ j, W.frozen? ⟨w.heap.size, j, none⟩ = false := blk_free g0
  have hB : Below W.heap.size W W := Below.refl _ _
  have G0 := Lib.hid g0; clear g0
  have F0 := Lib.hid f0; clear f0
  have Hw := Lib.hid hw; clear hw
  have HW := Lib.hid (H.out.below Hw.out)
  have hWs : W.heap.size = W.heap.size := rfl
  go_wp2_with (go_at_call 65; refine (up_calls _ _ s).mono ?_; rintro e w' ⟨rfl, q0, q1, qz, hb⟩; have hB := bl_next hB hb; clear hb)
  obtain ⟨V, rfl⟩ : ∃ V : World, V = w' := ⟨_, rfl⟩
  refine (wpIn_wide (n := 5)).1 ?_
  have HV := HW.out.below hB
  have hWz : w.heap.size + 1 ≤ W.heap.size := by have := blk_lt G0.out; omega
  have bO : Boxed V w.heap.size 35 (.slice none 0 0) := blk_below G0.out hB
  have hVw : W.heap.size + 2 ≤ V.heap.size := qz
  have hlt2 := hlt.out
  refine wpIn_rangeFunc_ownF rfl (by decide) (gf := 92) rfl trivial (enters_of Try.func92 (by kernel_rfl) rfl)
    (up_stops (fun k => V.heap.size ≤ k ∨ k = w.heap.size) 4 (by decide) _ _ tp mb N G s hs V q1 q0 HV (by show ¬ (V.heap.size ≤ W.heap.size ∨ W.heap.size = w.heap.size); omega) (fun k hk => by show ¬ (V.heap.size ≤ k ∨ k = w.heap.size); rcases hk with rfl | rfl <;> omega)) keptK_t (keptK_b (fun k hk => .inl hk)) (Below.refl _ _) (fun _ => rfl)
    (fun pre U => ((∃ v, Boxed U w.heap.size 35 v ∧ U.ownsRow V.heap.size 9 1 v pre.length (strC pre) ∧ True) ∧ V.heap.size ≤ U.heap.size) ∧ Below w.heap.size w U)
    (fun c pre U => False)
    ?hI ?hIx ?h0 ?a1 ?assign ?body ?done ?stop
  case assign =>
    intro l1 x U K hK
    gi_wp2
    exact hK
  case hI =>
    refine OwnFrom.and (Own.from (fun s A B row hs hg hr => ⟨holdsRow_own V.heap.size w.heap.size 35 9 1 (fun pre : List ByteArray => pre.length) (fun pre => strC pre) (fun _ _ => True) s A B row hs.1 hg hr, Nat.le_trans hs.2 hg.size⟩) _) (ownFrom_below (Nat.le_refl _) (by omega))
  case hIx =>
    intro c s A B row hs _ _
    exact hs.elim
  case h0 => exact ⟨⟨⟨_, bO, World.ownsRow_nil _ _ _ _, trivial⟩, Nat.le_refl _⟩, bl_from Hw.out hB⟩
  case body =>
    rintro l1 pre x U ⟨⟨⟨vo, hvo, hrow, -⟩, hVU⟩, hbU⟩ hpl
    have hc := hvo.cell
    have hsz : V.heap.size ≤ (U.alloc (.cells #[.string x] 9)).heap.size := by simp; omega
    have HP := Lib.hid (show strC (pre ++ [x]) = strC pre ++ [.string x] by simp [strC])
    gi_wp2_with (gi_at_builtin; refine wpListIn_append_own _ rfl _ _ 35 rfl V.heap.size 9 i0 (.string ⟨#[]⟩) 1 16 Try.underlying35 hi hz0 hz1 hz2 rfl (by decide) _ _ _ rfl (hrow.alloc _) ⟨U.heap.size, 0, none⟩ 1 1 [.string x] rfl rfl (fun j y hj => by match j, hj with | 0, hj => simp at hj; subst hj; exact blk_cell (blk_new U _) 0) (by simp [Value.oneCell']) (by unfold maxLen; omega) (by omega) (by simp; omega) ?_; intro v' w1 hown' hgrow _; obtain ⟨g', cap', rfl⟩ := ownsRow_succ hown'; obtain ⟨hv1, hv2, hr2, hk2, hb2⟩ := hvo.appended (by decide) (rw_mono hrow (by omega : w.heap.size ≤ V.heap.size)) hbU.size (by omega) (rw_mono hown' (by omega : w.heap.size ≤ V.heap.size)) hgrow; have hc1 := hv1.cell; have hf1 := hv1.frozen)
    have hkX : Kept (fun k => V.heap.size ≤ k ∨ k = w.heap.size) U (w1.setCell ⟨w.heap.size, 0, none⟩ (.slice (some ⟨g', 0, none⟩) (pre.length + 1) cap')) :=
      (((Kept.refl _ U).alloc _).grown hgrow (fun k hk => .inl (.inl (World.ownsRow.lt hrow k hk).1))).setCell ⟨w.heap.size, 0, none⟩ _ (.inl (.inr rfl))
    have hr3 := hown'.kept (grownBy_setCell' w1 w.heap.size (.slice (some ⟨g', 0, none⟩) (pre.length + 1) cap')) (.inr (hv1.not_row (by decide) hown').symm)
    refine ⟨hk2, hkX, ⟨⟨_, hv2, ?_⟩, Nat.le_trans hVU hkX.size⟩, hbU.trans hb2⟩
    rw [HP.out, List.length_append]; exact ⟨hr3, trivial⟩
  case done =>
    rintro D xs U hD rfl ⟨⟨⟨vo, hvo, hrow, -⟩, hVU⟩, hbU⟩ hK
    have hc := hvo.cell
    go_wp2
    refine ⟨by simp, .inl ⟨_, _, rfl, run_takeDeferred hK, ?_⟩⟩
    refine ⟨_, results_tmp rfl _ _ _, vo, rfl, ?_, hbU.grown (grownBy_putObj' _ D (.deferred none)) hbU.size (fun k e => by cases e; omega)⟩
    exact ownsRow_putObj (rw_mono hrow (by omega)) _ hK rfl
  case stop =>
    rintro D c pre U hD hsp hf _
    exact hf.elim
end Go.Proofs.Ythaipgbjnigkhaa

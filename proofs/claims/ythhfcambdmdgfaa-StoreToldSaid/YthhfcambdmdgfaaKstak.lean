import Derived.Test.YthhfcambdmdgfaaKstaj
import Derived.Shelf.SlSortCmp.NoneTotal
import Derived.Test.YthhfcambdmdgfaaKstab
import Derived.Test.YthhfcambdmdgfaaKstai
import Derived.Test.YthhfcambdmdgfaaKstaa
namespace Go.Proofs.Ythhfcambdmdgfaa
open Go.RowKit Go.Shelf Go.Maps
set_option linter.unusedVariables false
set_option linter.unusedSimpArgs false
set_option linter.unusedSectionVars false
attribute [local go_sem] Oper.semAt_some
def keyC (l : List KS) : List Value := l.flatMap encK
theorem keyC_app (l : List KS) (k : KS) : keyC (l ++ [k]) = keyC l ++ encK k := by simp [keyC]
theorem info_key : (Try.prog.info? 24).map (fun i => (i.zero, i.size, i.bytes)) = some (some (.agg #[.string ⟨#[]⟩, .string ⟨#[]⟩, .string ⟨#[]⟩]), 3, 48) := by kernel_rfl
set_option maxRecDepth 100000 in
set_option maxHeartbeats 8000000 in
theorem appendSeq_calls (w : World) {g : Nat} {lb : Array Value} {S Sp : List KS → Prop} {N : Nat} (hFg : Fence.wide.fn g) (eg : ∀ args w, (callFunc g args).run Try.prog w = .ok (.enter g args) w)
    (hseq : SeqStopsK Fence.wide 4 Try.prog g lb encKV KeepsWalks S Sp N w) (hN : N ≤ 1000000) :
    Calls Try.prog 113 #[.slice none 0 0, .func (.func g) #[] lb] w fun e w' => ∃ v ks, e = .returned v ∧ S ks ∧ w'.ownsRow w.heap.size 24 3 v ks.length (keyC ks) ∧ Below w.heap.size w w' := by
  obtain ⟨i0, hi, hz0, hz1, hz2⟩ := info_parts info_key
  refine (callsIn_wide (n := 6)).1 ?_
  refine callsIn_of_wp_marks Try.func113 rfl trivial ?_ rfl
  simp only [Try.ntmps113, List.size_toArray, List.length_cons, List.length_nil, Nat.reduceAdd, Nat.reduceSub, Array.replicate_succ, Array.replicate_zero, List.push_toArray, List.append_toArray, List.nil_append, List.cons_append]
  refine wpIn_wide.2 ?_
  go_wp2_with fail
  first | with_reducible refine name_wp ?_ | with_reducible refine name_calls ?_
  intro V hV
  have bO : Boxed V w.heap.size 75 (.slice none 0 0) := by rw [hV]; exact blk_new w _
  have hbV : Below w.heap.size w V := by rw [hV]; exact (Below.refl _ _).alloc (Nat.le_refl _) _
  have hzV : w.heap.size + 1 ≤ V.heap.size := by rw [hV]; simp
  clear hV
  refine (wpIn_wide (n := 5)).1 ?_
  refine wpIn_rangeFunc_ownH rfl (by decide) (gf := g) rfl hFg eg hseq walksK_t walksK_b hbV (fun _ => rfl)
    (fun pre U => (∃ v, Boxed U w.heap.size 75 v ∧ U.ownsRow w.heap.size 24 3 v pre.length (keyC pre) ∧ True) ∧ Below w.heap.size w U)
    (fun c pre U => False)
    ?hI ?hIx ?h0
    (fun x a' U => ∃ p, a' = { tmps := #[.slice none 0 0, .func (.func g) #[] lb, .pointer (some ⟨w.heap.size, 0, none⟩), undef, .slice none 0 0, .pointer (some ⟨p, 0, none⟩), .func (.func g) #[] lb, .agg #[.string x.1.kind, .string x.1.space, .string x.1.name], undef, undef, undef, undef, undef], defers := [] } ∧ U.cell? ⟨p, 0, none⟩ = some (.string x.1.kind) ∧ U.cell? ⟨p, 1, none⟩ = some (.string x.1.space) ∧ U.cell? ⟨p, 2, none⟩ = some (.string x.1.name))
    ?hAx ?assign ?body ?done ?stop
  case hI =>
    refine OwnFrom.and (Own.from (fun s A B row hs hg hr => holdsRow_own w.heap.size w.heap.size 75 24 3 (fun pre : List KS => pre.length) (fun pre => keyC pre) (fun _ _ => True) s A B row hs hg hr) _) (ownFrom_below (Nat.le_refl _) (by omega))
  case hIx =>
    intro c s A B row hs _ _
    exact hs.elim
  case h0 => exact ⟨⟨_, bO, World.ownsRow_nil _ _ _ _, trivial⟩, hbV⟩
  case hAx =>
    rintro x a' s A B row ⟨p, e, q0, q1, q2⟩ hg hr
    exact ⟨p, e, cell_kept q0 hg (fun r e => (hr r e).2), cell_kept q1 hg (fun r e => (hr r e).2), cell_kept q2 hg (fun r e => (hr r e).2)⟩
  case assign =>
    rintro l1 pre x U K ⟨⟨vo, hvo, hrow, -⟩, hbU⟩ hK
    unfold encKV
    gi_wp2_with fail
    refine hK _ _ ⟨by simp, fun k o _ hk _ => blk_old hk _⟩ (KeepsWalks.alloc _ _) ⟨⟨vo, hvo.alloc _, hrow.alloc _, trivial⟩, hbU.alloc hbU.size _⟩ ⟨U.heap.size, rfl, blk_cell (blk_new U _) 0, blk_cell (blk_new U _) 1, blk_cell (blk_new U _) 2⟩
  case body =>
    rintro l1 pre x a' U hl1 hrl ⟨⟨vo, hvo, hrow, -⟩, hbU⟩ ⟨p, rfl, q0, q1, q2⟩ hpl
    have hc := hvo.cell
    have HP := Lib.hid (show keyC (pre ++ [x]) = keyC pre ++ [.string x.1.kind, .string x.1.space, .string x.1.name] by rw [keyC_app]; rfl)
    clear hrl hl1
    gi_wp2_with (gi_at_builtin; refine wpListIn_append_own _ rfl _ _ 75 rfl w.heap.size 24 i0 (.agg #[.string ⟨#[]⟩, .string ⟨#[]⟩, .string ⟨#[]⟩]) 3 48 Try.underlying75 hi hz0 hz1 hz2 rfl (by decide) _ _ _ rfl (hrow.alloc _) ⟨U.heap.size, 0, none⟩ 1 1 [.string x.1.kind, .string x.1.space, .string x.1.name] rfl rfl (fun j y hj => by match j, hj with | 0, hj => simp at hj; subst hj; exact blk_cell (blk_new U _) 0 | 1, hj => simp at hj; subst hj; exact blk_cell (blk_new U _) 1 | 2, hj => simp at hj; subst hj; exact blk_cell (blk_new U _) 2) (by simp [Value.oneCell']) (by unfold maxLen; omega) (by omega) (by have := hbU.size; simp; omega) ?_; intro v' w1 hown' hgrow _; obtain ⟨g', cap', rfl⟩ := ownsRow_succ hown'; obtain ⟨hv1, hv2, hr2, hk2, hb2⟩ := hvo.appended (by decide) hrow hbU.size (by omega) hown' hgrow; have hc1 := hv1.cell; have hf1 := hv1.frozen)
    exact ⟨hk2.from _, hk2.walks, ⟨_, hv2, by rw [HP.out, List.length_append]; exact hr2, trivial⟩, hbU.trans hb2⟩
  case done =>
    rintro D xs U hDz hS ⟨⟨vo, hvo, hrow, -⟩, hbU⟩ hK
    have hc := hvo.cell
    go_wp2
    refine ⟨by simp, .inl ⟨_, _, rfl, run_takeDeferred hK, ?_⟩⟩
    refine ⟨_, results_tmp rfl _ _ _, vo, xs, rfl, hS, ?_, hbU.grown (grownBy_putObj' _ D (.deferred none)) hbU.size (fun k e => by cases e; omega)⟩
    exact ownsRow_putObj hrow _ hK rfl
  case stop =>
    rintro D c pre U hD hsp hf _
    exact hf.elim
theorem collect_calls (w : World) {g : Nat} {lb : Array Value} {S Sp : List KS → Prop} {N : Nat} (hFg : Fence.wide.fn g) (eg : ∀ args w, (callFunc g args).run Try.prog w = .ok (.enter g args) w)
    (hseq : SeqStopsK Fence.wide 4 Try.prog g lb encKV KeepsWalks S Sp N w) (hN : N ≤ 1000000) :
    Calls Try.prog 100 #[.func (.func g) #[] lb] w fun e w' => ∃ v ks, e = .returned v ∧ S ks ∧ w'.ownsRow w.heap.size 24 3 v ks.length (keyC ks) ∧ Below w.heap.size w w' := by
  have HA := Lib.hid (appendSeq_calls w hFg eg hseq hN)
  clear hseq eg hFg
  go_enter Try.func100, Try.ntmps100
  go_wp2_with (go_at_call 113; refine HA.out.mono ?_; rintro e w1 ⟨v, ks, rfl, hS, hr, hb⟩; have HF := Lib.hid (And.intro hS (And.intro hr hb)); clear hS hr hb)
  go_ret
  exact ⟨v, ks, rfl, HF.out.1, HF.out.2.1, HF.out.2.2⟩
instance : Inhabited KS := ⟨⟨⟨⟨#[]⟩, ⟨#[]⟩, ⟨#[]⟩⟩, by decide, by decide, by decide⟩⟩
theorem ltOf_cf (a b : KS) : ltOf cfK a b = ltT a b := by
  show decide (cfK a b < 0) = ltT a b
  unfold cfK
  cases h : ltT a b with
  | true => simp
  | false => cases ltT b a <;> simp
theorem ltT_B (a b : KS) : ltT a b = ltB (kT a.1) (kT b.1) := rfl
theorem swo_cf : Go.Sort.SWO (ltOf cfK) where
  irrefl x := by rw [ltOf_cf, ltT_B]; exact ltB_irrefl _
  trans x y z h1 h2 := by rw [ltOf_cf, ltT_B] at *; exact ltB_trans h1 h2
  ntrans x y z h1 h2 := by
    rw [ltOf_cf, ltT_B] at *
    cases h : ltB (kT x.1) (kT z.1) with
    | false => rfl
    | true =>
      by_cases e : kT x.1 = kT y.1
      · rw [e, h2] at h; cases h
      · rcases ltB_total e with q | q
        · rw [h1] at q; cases q
        · have := ltB_trans q h
          rw [h2] at this; cases this
theorem keyC_len (l : List KS) : (keyC l).length = l.length * 3 := by
  induction l with
  | nil => rfl
  | cons a r ih => rw [show keyC (a :: r) = encK a ++ keyC r from rfl, List.length_append, ih, List.length_cons]; show 3 + _ = _; omega
theorem keyC_flat (ks : List KS) : (Go.Sort.flatK encK 3 ks.toArray).toList = keyC ks := by
  apply List.ext_getElem
  · rw [keyC_len]; simp
  · intro j h1 h2
    have hj : j < ks.length * 3 := by rw [← keyC_len]; exact h2
    have hi : j / 3 < ks.length := by omega
    have e1 := flat_at encK 3 (fun _ => rfl) ks (j / 3) hi (j % 3) (by omega)
    rw [show j / 3 * 3 + j % 3 = j by omega] at e1
    have e2 : (keyC ks)[j]? = (encK (ks[j / 3]'hi))[j % 3]? := e1
    rw [List.getElem?_eq_getElem h2] at e2
    have e3 := Go.Sort.get_flatK encK 3 ks.toArray j (by simpa using hj)
    have h3 : j < (Go.Sort.flatK encK 3 ks.toArray).size := by simpa using hj
    rw [getElem!_pos _ j h3] at e3
    rw [Array.getElem_toList, e3]
    have e4 : ks.toArray[j / 3]! = ks[j / 3]'hi := by rw [getElem!_pos _ _ (by simpa using hi)]; simp
    rw [e4]
    have h4 : j % 3 < (encK (ks[j / 3]'hi)).length := by show j % 3 < 3; omega
    rw [List.getElem?_eq_getElem h4] at e2
    rw [getElem!_pos (encK (ks[j / 3]'hi)) (j % 3) h4]
    exact (Option.some.inj e2).symm
theorem holdsK_row {w : World} {base g cap : Nat} {ks : List KS} (hr : w.ownsRow base 24 3 (.slice (some ⟨g, 0, none⟩) ks.length cap) ks.length (keyC ks)) : Go.Sort.HoldsK encK 3 w g 0 ks.toArray := by
  obtain ⟨_, _, hc, hf⟩ := rw_cells hr
  intro j hj
  have hj' : j < ks.length * 3 := by simpa using hj
  rw [Nat.zero_add]
  refine ⟨?_, hf j⟩
  rw [hc j hj', ← keyC_flat]
  have h3 : j < (Go.Sort.flatK encK 3 ks.toArray).size := hj
  rw [getElem!_pos _ j h3]
  show some (List.getD _ j undef) = some _
  rw [List.getD_eq_getElem?_getD, List.getElem?_eq_getElem (by simpa using h3)]
  simp
theorem heap_put {w : World} {g n : Nat} {os : Array Obj} {cur : Array Value} {e : TypeId} (F : Array Value) (hb : w.heap[g]? = some (.cells cur e (0, 0))) :
    (Go.Sort.grow (Go.Sort.putRow id (Go.Sort.ahead w n) g 0 F) os).heap[g]? = some (.cells (Go.Sort.putCells id 0 F cur) e (0, 0)) := by
  obtain ⟨hlt, hk⟩ := Array.getElem?_eq_some_iff.1 hb
  show ((w.heap.modify g (Go.Sort.onCells _)) ++ os)[g]? = _
  rw [Array.getElem?_append_left (by rw [Array.size_modify]; exact hlt), Array.getElem?_eq_getElem (by rw [Array.size_modify]; exact hlt), Array.getElem_modify_self, hk]
  rfl
theorem kept_put {w : World} {g n : Nat} {os : Array Obj} (F : Array Value) : Kept (fun k => k = g) w (Go.Sort.grow (Go.Sort.putRow id (Go.Sort.ahead w n) g 0 F) os) := by
  refine ⟨rfl, rfl, rfl, ?_, fun k hk hx => ?_⟩
  · show w.heap.size ≤ ((w.heap.modify g (Go.Sort.onCells _)) ++ os).size
    rw [Array.size_append, Array.size_modify]; omega
  · show ((w.heap.modify g (Go.Sort.onCells _)) ++ os)[k]? = _
    rw [Array.getElem?_append_left (by rw [Array.size_modify]; exact hk), Array.getElem?_eq_getElem (by rw [Array.size_modify]; exact hk), Array.getElem_modify_of_ne (fun e => hx e.symm), Array.getElem?_eq_getElem hk]
theorem take_put (cur F : Array Value) (h : F.size ≤ cur.size) : (Go.Sort.putCells id 0 F cur).toList.take F.size = F.toList := by
  apply List.ext_getElem
  · simp [Go.Sort.putCells]; omega
  · intro j h1 h2
    have hj : j < F.size := by simpa using h2
    simp [Go.Sort.putCells, hj]
theorem row_put {w : World} {base g cap n : Nat} {os : Array Obj} {ks ks' : List KS} (hl : ks'.length = ks.length) (hr : w.ownsRow base 24 3 (.slice (some ⟨g, 0, none⟩) ks.length cap) ks.length (keyC ks)) :
    (Go.Sort.grow (Go.Sort.putRow id (Go.Sort.ahead w n) g 0 (Go.Sort.flatK encK 3 ks'.toArray)) os).ownsRow base 24 3 (.slice (some ⟨g, 0, none⟩) ks.length cap) ks.length (keyC ks') := by
  rcases hr.2 with ⟨q, _⟩ | ⟨g', cap', cur, q, h1, h2, h3, h4, h5, h6⟩
  · cases q
  · cases q
    refine ⟨by rw [keyC_len, hl], .inr ⟨g, cap, _, rfl, h1, heap_put _ h2, h3, h4, ?_, ?_⟩⟩
    · rw [← h5]; simp [Go.Sort.putCells]
    · have hs : (Go.Sort.flatK encK 3 ks'.toArray).size = ks.length * 3 := by simp [hl]
      rw [← hs, take_put _ _ (by rw [hs, h5]; exact Nat.mul_le_mul_right 3 h3), keyC_flat]
set_option maxHeartbeats 4000000 in
theorem sortK_calls (w : World) {base : Nat} {v : Value} {ks : List KS} (hr : w.ownsRow base 24 3 v ks.length (keyC ks)) (hb : base ≤ w.heap.size) (hl : ks.length ≤ 1000000) :
    Calls Try.prog 101 #[v, .func (.func 78) #[] #[]] w fun e w' => e = .returned (.tuple #[]) ∧
      ∃ ks' : List KS, ks'.Perm ks ∧ ks'.Pairwise (fun a b => ltT b a = false) ∧ w'.ownsRow base 24 3 v ks'.length (keyC ks') ∧ Below base w w' := by
  cases hk : ks with
  | nil =>
    subst hk
    obtain ⟨A, c, rfl⟩ := rw_form hr
    refine (AnyF.slices_SortFunc_none Try.sortKey A c _ w).mono ?_
    rintro e w' ⟨rfl, rfl⟩
    exact ⟨rfl, [], List.Perm.refl _, List.Pairwise.nil, hr, Below.refl _ _⟩
  | cons a r =>
    rw [← hk]
    obtain ⟨g, cap, rfl⟩ := rw_pos hr (by rw [hk]; simp)
    have hlt := (rw_cells hr).2.1
    have hge := (rw_cells hr).1
    have hcon := AnyQ.slices_SortFunc Try.sortKey 3 (fun w => by kernel_rfl) (fun w => by kernel_rfl) encK (fun _ => rfl) (fun x v hv => by simp [encK] at hv; rcases hv with rfl | rfl | rfl <;> rfl) cfK swo_cf 78 #[] g 0 cap ks.toArray w
      (enters_of Try.func78 (by kernel_rfl) rfl) (fun m os dk hs x y => order_gr x y _) (holdsK_row hr) hlt (by simp; omega)
    have hcon2 : Calls Try.prog 101 #[.slice (some ⟨g, 0, none⟩) ks.length cap, .func (.func 78) #[] #[]] w _ := hcon
    refine hcon2.mono ?_
    rintro e w' ⟨rfl, d', n, os, ⟨hp1, hp2, hp3⟩, hs, rfl⟩
    have hsz : d'.size = ks.length := by rw [hp1]; simp
    have hperm : d'.toList.Perm ks := by
      have h := hp3
      rw [show ks.toArray.size = ks.length by simp] at h
      have e1 : (d'.extract 0 ks.length).toList = d'.toList := by rw [← hsz]; simp
      have e2 : (ks.toArray.extract 0 ks.length).toList = ks := by simp
      rw [e1, e2] at h
      exact h
    refine ⟨rfl, d'.toList, hperm, ?_, ?_, ?_⟩
    · rw [List.pairwise_iff_getElem]
      intro i j hi hj hij
      have hi' : i < d'.size := by simpa using hi
      have hj' : j < d'.size := by simpa using hj
      have := hs i j (Nat.zero_le _) hij (by rw [hp1] at hj'; exact hj')
      rw [ltOf_cf, getElem!_pos d' j hj', getElem!_pos d' i hi'] at this
      simpa using this
    · have h := row_put (w := w) (n := n) (os := os) (ks' := d'.toList) hperm.length_eq hr
      rw [hperm.length_eq]
      simp only [Array.toArray_toList] at h
      exact h
    · exact (kept_put (w := w) (g := g) (n := n) (os := os) (Go.Sort.flatK encK 3 d')).below hb (fun k e => by subst e; exact hge)
theorem nodup_le {α : Type} [DecidableEq α] : ∀ {l m : List α}, l.Nodup → (∀ x ∈ l, x ∈ m) → l.length ≤ m.length
  | [], _, _, _ => Nat.zero_le _
  | a :: r, m, hn, h => by
    rw [List.nodup_cons] at hn
    have ih := nodup_le (l := r) (m := m.erase a) hn.2 (fun x hx => (List.mem_erase_of_ne (fun e => hn.1 (by rw [← e]; exact hx))).2 (h x (List.mem_cons_of_mem _ hx)))
    have ha := h a List.mem_cons_self
    rw [List.length_erase_of_mem ha] at ih
    have := List.length_pos_of_mem ha
    rw [List.length_cons]; omega
theorem allK_len {β : Type} {M : AM KS β} {ks : List KS} (h : AllK M ks) : ks.length ≤ M.length := by
  have := nodup_le (m := M.map (·.1)) h.1 (fun x hx => by
    have := (h.2 x).1 hx
    unfold hasA at this
    rw [List.any_eq_true] at this
    obtain ⟨q, hq, e⟩ := this
    exact List.mem_map.2 ⟨q, hq, by simpa using e⟩)
  rwa [List.length_map] at this
/-- What slices.SortedFunc of a map's keys yields. -/
def SrtK {β : Type} (w : World) (M : AM KS β) (e : Ending) (w' : World) : Prop := ∃ A c ks, e = .returned (.slice A ks.length c) ∧ w'.ownsRow w.heap.size 24 3 (.slice A ks.length c) ks.length (keyC ks) ∧ AllK M ks ∧ ks.Pairwise (fun a b => ltT b a = false) ∧ Below w.heap.size w w'
set_option maxHeartbeats 4000000 in
theorem sortedFunc_calls (w : World) {β : Type} {g : Nat} {lb : Array Value} {M : AM KS β} (hFg : Fence.wide.fn g) (eg : ∀ args w, (callFunc g args).run Try.prog w = .ok (.enter g args) w)
    (hseq : SeqStopsK Fence.wide 4 Try.prog g lb encKV KeepsWalks (AllK M) (fun _ => True) M.length w) (hM : M.length ≤ 1000000) :
    Calls Try.prog 76 #[.func (.func g) #[] lb, .func (.func 78) #[] #[]] w (SrtK w M) := by
  have HA := Lib.hid (collect_calls w hFg eg hseq hM)
  clear hseq eg hFg
  go_enter Try.func76, Try.ntmps76
  go_upto_region 2 with (go_at_call 100; refine HA.out.mono ?_; rintro e w1 ⟨v, ks, rfl, hS, hr, hb⟩; have HF := Lib.hid (And.intro hS (And.intro hr hb)); clear hS hr hb)
  have HL := Lib.hid (show ks.length ≤ 1000000 from Nat.le_trans (allK_len HF.out.1) hM)
  have HC := Lib.hid (sortK_calls w1 HF.out.2.1 HF.out.2.2.size HL.out)
  go_wp2_with (go_at_call 101; refine HC.out.mono ?_; rintro e w2 ⟨rfl, ks', hp, hs, hr, hb⟩; have HG := Lib.hid (And.intro hp (And.intro hs (And.intro hr hb))); clear hp hs hr hb)
  go_ret
  obtain ⟨hp, hs, hr, hb⟩ := HG.out
  obtain ⟨A, c, rfl⟩ := rw_form hr
  exact ⟨A, c, ks', rfl, hr, ⟨hp.nodup_iff.2 HF.out.1.1, fun x => by rw [hp.mem_iff]; exact HF.out.1.2 x⟩, hs, HF.out.2.2.trans hb⟩
end Go.Proofs.Ythhfcambdmdgfaa
namespace Go.Proofs.Ythhfcambdmdgfaa
open Go.RowKit Go.Maps
set_option linter.unusedVariables false
set_option linter.unusedSimpArgs false
set_option linter.unusedSectionVars false
def keyA : KeyD := ⟨⟨#[112, 111, 100]⟩, ⟨#[97]⟩, ⟨#[120]⟩⟩
def kA : KS := ⟨keyA, by decide, by decide, by decide⟩
def oA : ObjD := ⟨keyA, -7, ⟨#[104, 105, 103, 104]⟩, false, false, []⟩
theorem oA_right : rightO { oA with ver := 1 } = true := by kernel_rfl
theorem kA_ok : keyOk kA.1 = true := by kernel_rfl
theorem zero_wrong : rightO { zeroO with ver := 1 } = false := by kernel_rfl
theorem oA_S (U : World) : ObjS U (.slice none 0 0) oA := ⟨⟨sliS_nil U 2, by rintro p ⟨⟩⟩, (show in64 (-7) by unfold in64; omega)⟩
theorem oA_small : objSmall oA := ⟨kA.2, (show (ByteArray.mk #[104, 105, 103, 104]).size ≤ 1000 by decide), (show (0 : Nat) ≤ 300 by omega), by rintro p ⟨⟩⟩
section
variable {w w' : World} {base sp mb : Nat} {ver : Int} {M : AM KS OX} {lv : Value} {L : List LX}
/-- A box of an object outlives the store's writes. -/
theorem StoreAt.box {b : Nat} {cs : Array Value} (h : StoreAt w base sp mb ver M lv L) (hb : w.heap[b]? = some (.cells cs 27)) (hk : Kept (fun b => b = sp ∨ b = mb ∨ lv.ownBlock = some b) w w') : w'.heap[b]? = some (.cells cs 27) := by
  refine hk.heap hb ?_
  rintro (q | q | q)
  · subst q; rw [h.cell] at hb; cases hb
  · exact mv_other h.map hb q
  · exact rw_other h.row hb (by decide) q
def AOut (w : World) (base sp mb : Nat) (ver : Int) (M1 : Value → AM KS OX) (lv : Value) (L : List LX) (kd : Int) (o : ObjD) (e : Ending) (w' : World) : Prop :=
  ∃ lv' x y, e = .returned (.tuple #[.int .i64 (ver + 1), .int .i64 0]) ∧ Hid (StoreAt w' base sp mb (ver + 1) (M1 y) lv' (L ++ [(kd, ({ o with ver := ver + 1 }, x))])) ∧ Hid (Kept (fun b => b = sp ∨ b = mb ∨ lv.ownBlock = some b) w w')
theorem act9_ok {M1 : Value → AM KS OX} {kd : Int} {o : ObjD} {er : Int} {e : Ending} (h : Act9 w base sp mb ver M1 lv L kd o er e w') (he : er = 0) : AOut w base sp mb ver M1 lv L kd o e w' := by
  rcases h with ⟨h1, _⟩ | ⟨_, lv', x, y, h2, h3, h4⟩
  · exact absurd he h1
  · exact ⟨lv', x, y, h2, Lib.hid h3, Lib.hid h4⟩
theorem act9_no {M1 : Value → AM KS OX} {kd : Int} {o : ObjD} {er : Int} {e : Ending} (h : Act9 w base sp mb ver M1 lv L kd o er e w') (he : er ≠ 0) : e = .returned (.tuple #[.int .i64 0, .int .i64 er]) ∧ Below w.heap.size w w' := by
  rcases h with ⟨_, h2, h3⟩ | ⟨h1, _⟩
  · exact ⟨h2, h3⟩
  · exact absurd h1 he
theorem putA_calls (h : StoreAt w base sp mb ver M lv L) (hv : 0 ≤ ver ∧ ver ≤ 1000) (hM : M.length ≤ 100) (hL : L.length ≤ 100) :
    Calls Try.prog 39 #[.pointer (some ⟨sp, 0, none⟩), .agg #[.string ⟨#[112, 111, 100]⟩, .string ⟨#[97]⟩, .string ⟨#[120]⟩, .int .i64 (-7), .string ⟨#[104, 105, 103, 104]⟩, .bool false, .bool false, .slice none 0 0]] w (AOut w base sp mb ver (fun y => putA ltKS M kA ({ oA with ver := ver + 1 }, y)) lv L 0 oA) :=
  (sput_calls w h (o := oA) (k := kA) (sl := .slice none 0 0) rfl (fun U _ => oA_S U) oA_small ⟨hv.1, by omega⟩ (by omega) (by omega)).mono fun e w' q => act9_ok q (by
    unfold putErr
    rw [oA_right, if_pos rfl, if_pos (by simp; right; omega)])
theorem delA_calls (h : StoreAt w base sp mb ver M lv L) (hh : hasA M kA = true) (hv : 0 ≤ ver ∧ ver ≤ 1000) (hM : M.length ≤ 100) (hL : L.length ≤ 100) :
    Calls Try.prog 40 #[.pointer (some ⟨sp, 0, none⟩), .agg #[.string ⟨#[112, 111, 100]⟩, .string ⟨#[97]⟩, .string ⟨#[120]⟩]] w (AOut w base sp mb ver (fun _ => delA M kA) lv L 1 (goneO keyA)) :=
  (sdelete_calls w h kA ⟨hv.1, by omega⟩ (by omega) (by omega)).mono fun e w' q => act9_ok q (by unfold delErr; rw [kA_ok, if_pos rfl, hh, if_pos rfl])
theorem delNo_calls (h : StoreAt w base sp mb ver M lv L) (hh : hasA M kA = false) (hv : 0 ≤ ver ∧ ver ≤ 1000) (hM : M.length ≤ 100) (hL : L.length ≤ 100) :
    Calls Try.prog 40 #[.pointer (some ⟨sp, 0, none⟩), .agg #[.string ⟨#[112, 111, 100]⟩, .string ⟨#[97]⟩, .string ⟨#[120]⟩]] w fun e w' => e = .returned (.tuple #[.int .i64 0, .int .i64 4]) ∧ Below w.heap.size w w' :=
  (sdelete_calls w h kA ⟨hv.1, by omega⟩ (by omega) (by omega)).mono fun e w' q => by
    have e4 : delErr M kA = 4 := by unfold delErr; rw [kA_ok, if_pos rfl, hh]; rfl
    rw [e4] at q
    exact act9_no q (by decide)
theorem putNo_calls (h : StoreAt w base sp mb ver M lv L) (hv : 0 ≤ ver ∧ ver ≤ 1000) (hM : M.length ≤ 100) (hL : L.length ≤ 100) :
    Calls Try.prog 39 #[.pointer (some ⟨sp, 0, none⟩), .agg #[.string ⟨#[]⟩, .string ⟨#[]⟩, .string ⟨#[]⟩, .int .i64 0, .string ⟨#[]⟩, .bool false, .bool false, .slice none 0 0]] w fun e w' => e = .returned (.tuple #[.int .i64 0, .int .i64 1]) ∧ Below w.heap.size w w' :=
  (sput_calls w h (o := zeroO) (k := ⟨zeroO.key, zeroO_small.1⟩) (sl := .slice none 0 0) rfl (fun U _ => zeroO_S U) zeroO_small ⟨hv.1, by omega⟩ (by omega) (by omega)).mono fun e w' q => by
    have e1 : putErr M ⟨zeroO.key, zeroO_small.1⟩ zeroO = 1 := by unfold putErr; rw [zero_wrong]; rfl
    rw [e1] at q
    exact act9_no q (by decide)
end
end Go.Proofs.Ythhfcambdmdgfaa
namespace Go.Proofs.Ythhfcambdmdgfaa
open Go.RowKit Go.Maps
set_option linter.unusedVariables false
set_option linter.unusedSimpArgs false
theorem StoreAt.keptB {w w' : World} {base sp mb : Nat} {ver : Int} {M : AM KS OX} {lv : Value} {L : List LX} (h : StoreAt w base sp mb ver M lv L) (hk : Kept (fun b => b = sp ∨ b = mb ∨ lv.ownBlock = some b) w w') (hb : base ≤ w.heap.size) : Below base w w' :=
  hk.below hb (fun k q => by
    rcases q with q | q | q
    · rw [q]; exact h.ge.1
    · rw [q]; exact h.ge.2
    · exact (rw_type h.row q).1)
theorem put_n {M : AM KS OX} {k : KS} {v : OX} {n : Nat} (h : M.length ≤ n) : (putA ltKS M k v).length ≤ n + 1 := Nat.le_trans (put_le _ _ _ _) (by omega)
theorem del_n {M : AM KS OX} {k : KS} {n : Nat} (h : M.length ≤ n) : (delA M k).length ≤ n := Nat.le_trans (del_le _ _) h
theorem has_put (M : AM KS OX) (k : KS) (v : OX) : hasA (putA ltKS M k v) k = true := by rw [hasA_get, getA_put, if_pos rfl]; rfl
theorem has_del (M : AM KS OX) (k : KS) : hasA (delA M k) k = false := by rw [hasA_get, getA_del, if_pos rfl]; rfl
theorem delpp_nil (k : KS) (a b : OX) : delA (putA ltKS (putA ltKS ([] : AM KS OX) k a) k b) k = [] := by
  rw [List.eq_nil_iff_forall_not_mem]
  intro q hq
  obtain ⟨h1, h2⟩ := mem_del.1 hq
  rcases mem_put.1 h1 with rfl | ⟨h3, _⟩
  · exact h2 rfl
  · rcases mem_put.1 h3 with rfl | ⟨h4, _⟩
    · exact h2 rfl
    · cases h4
theorem log3 {w : World} {b : Nat} {v : Value} {ys : List LY} (h : LogF w b v ys) {a0 a1 a2 : Int × ObjD} (e : lyOf ys = [a0, a1, a2]) :
    ∃ g c, v = .slice (some ⟨g, 0, none⟩) 3 c ∧ w.cell? ⟨g, 15, none⟩ = some (.int .i64 a1.2.ver) ∧ w.cell? ⟨g, 16, none⟩ = some (.string a1.2.cls) ∧ w.cell? ⟨g, 22, none⟩ = some (.int .i64 a2.1) ∧ w.cell? ⟨g, 27, none⟩ = some (.string a2.2.cls) := by
  obtain ⟨e0, e1, e2, rfl⟩ : ∃ e0 e1 e2, ys = [e0, e1, e2] := by
    match ys, e with
    | [e0, e1, e2], _ => exact ⟨e0, e1, e2, rfl⟩
  have hr := h.row
  obtain ⟨g, c, rfl⟩ := rw_pos hr (by simp)
  have z := (rw_cells hr).2.2.1
  simp only [lyOf, List.map_cons, List.map_nil, List.cons.injEq] at e
  obtain ⟨_, h1, h2, _⟩ := e
  refine ⟨g, c, rfl, ?_, ?_, ?_, ?_⟩
  · rw [z 15 (by simp), ← h1]; rfl
  · rw [z 16 (by simp), ← h1]; rfl
  · rw [z 22 (by simp), ← h2]; rfl
  · rw [z 27 (by simp), ← h2]; rfl
set_option maxRecDepth 100000 in
set_option maxHeartbeats 8000000 in
theorem alive9_calls (w : World) : Calls Try.prog 27 #[] w fun e w' => e = .returned (.bool true) ∧ Below w.heap.size w w' := by
  go_enter Try.func27, Try.ntmps27
  go_upto_region 3 with (go_at_call 28; refine (snew_calls _).mono ?_; rintro e w1 ⟨sp, mb, rfl, hst, hb⟩; have H1 := Lib.hid hst; have HB1 := Lib.hid hb; clear hst hb)
  first | with_reducible refine name_wp ?_ | with_reducible refine name_calls ?_
  intro V2 hV
  have hbV : Below w1.heap.size w1 V2 := by rw [hV]; exact (Below.refl _ _).alloc (Nat.le_refl _) _
  have H2 := Lib.hid (H1.out.below hbV)
  have HB2 := Lib.hid (bl_next HB1.out hbV)
  have HX2 := Lib.hid (show V2.heap[w1.heap.size]? = some (.cells #[.string ⟨#[112, 111, 100]⟩, .string ⟨#[97]⟩, .string ⟨#[120]⟩, .int .i64 (-7), .string ⟨#[104, 105, 103, 104]⟩, .bool false, .bool false, .slice none 0 0] 27) by rw [hV]; exact blk_new w1 _)
  clear hV hbV
  have a0 := blk_cell HX2.out 0
  have a1 := blk_cell HX2.out 1
  have a2 := blk_cell HX2.out 2
  have a3 := blk_cell HX2.out 3
  have a4 := blk_cell HX2.out 4
  have a5 := blk_cell HX2.out 5
  have a6 := blk_cell HX2.out 6
  have a7 := blk_cell HX2.out 7
  go_upto_region 4 with (go_at_call 39; refine (putA_calls H2.out (by omega) (by simp) (by simp)).mono ?_; rintro e w3 ⟨lv3, x3, y3, rfl, hst, hkp⟩; have H3 := Lib.hid hst.out; have HX3 := Lib.hid (H2.out.box HX2.out hkp.out); have HB3 := Lib.hid (HB2.out.trans (StoreAt.keptB H2.out hkp.out HB2.out.size)); clear hst hkp)
  clear a0 a1 a2 a3 a4 a5 a6 a7
  have b0 := blk_cell HX3.out 0
  have b1 := blk_cell HX3.out 1
  have b2 := blk_cell HX3.out 2
  have b3 := blk_cell HX3.out 3
  have b4 := blk_cell HX3.out 4
  have b5 := blk_cell HX3.out 5
  have b6 := blk_cell HX3.out 6
  have b7 := blk_cell HX3.out 7
  go_upto_region 5 with (go_at_call 39; refine (putA_calls H3.out (by omega) (Nat.le_trans (put_n (Nat.le_refl 0)) (by omega)) (by simp)).mono ?_; rintro e w4 ⟨lv4, x4, y4, rfl, hst, hkp⟩; have H4 := Lib.hid hst.out; have HX4 := Lib.hid (H3.out.box HX3.out hkp.out); have HB4 := Lib.hid (HB3.out.trans (StoreAt.keptB H3.out hkp.out HB3.out.size)); clear hst hkp)
  clear b0 b1 b2 b3 b4 b5 b6 b7
  have c0 := blk_cell HX4.out 0
  have c1 := blk_cell HX4.out 1
  have c2 := blk_cell HX4.out 2
  have c3 := blk_cell HX4.out 3
  have c4 := blk_cell HX4.out 4
  have c5 := blk_cell HX4.out 5
  have c6 := blk_cell HX4.out 6
  have c7 := blk_cell HX4.out 7
  go_upto_region 6 with (go_at_call 40; refine (delA_calls H4.out (has_put _ _ _) (by omega) (Nat.le_trans (put_n (put_n (Nat.le_refl 0))) (by omega)) (by simp)).mono ?_; rintro e w5 ⟨lv5, x5, y5, rfl, hst, hkp⟩; have H5 := Lib.hid hst.out; have HX5 := Lib.hid (H4.out.box HX4.out hkp.out); have HB5 := Lib.hid (HB4.out.trans (StoreAt.keptB H4.out hkp.out HB4.out.size)); clear hst hkp)
  clear c0 c1 c2 c3 c4 c5 c6 c7
  have d0 := blk_cell HX5.out 0
  have d1 := blk_cell HX5.out 1
  have d2 := blk_cell HX5.out 2
  have d3 := blk_cell HX5.out 3
  have d4 := blk_cell HX5.out 4
  have d5 := blk_cell HX5.out 5
  have d6 := blk_cell HX5.out 6
  have d7 := blk_cell HX5.out 7
  go_upto_region 7 with (go_at_call 40; refine (delNo_calls H5.out (has_del _ _) (by omega) (Nat.le_trans (del_n (put_n (put_n (Nat.le_refl 0)))) (by omega)) (by simp)).mono ?_; rintro e w6 ⟨rfl, hb⟩; have H6 := Lib.hid (H5.out.below hb); have HB6 := Lib.hid (bl_next HB5.out hb); clear hb)
  clear d0 d1 d2 d3 d4 d5 d6 d7
  go_upto_region 8 with (go_at_call 39; refine (putNo_calls H6.out (by omega) (Nat.le_trans (del_n (put_n (put_n (Nat.le_refl 0)))) (by omega)) (by simp)).mono ?_; rintro e w7 ⟨rfl, hb⟩; have H7 := Lib.hid (H6.out.below hb); have HB7 := Lib.hid (bl_next HB6.out hb); clear hb)
  go_upto_region 9 with (go_at_call 38; refine (slog_calls _ H7.out (by intro e he; simp only [List.nil_append, List.mem_append, List.mem_singleton] at he; rcases he with (rfl | rfl) | rfl <;> first | exact oA_small | exact ⟨kA.2, (show (ByteArray.mk #[]).size ≤ 1000 by decide), (show (0 : Nat) ≤ 300 by omega), by rintro p ⟨⟩⟩) (by simp)).mono ?_; rintro e w8 ⟨v8, ys, rfl, hlog, hly, hb⟩; obtain ⟨g, cg, rfl, l1, l2, l3, l4⟩ := log3 hlog hly; have H8 := Lib.hid (H7.out.below hb); have HB8 := Lib.hid (bl_next HB7.out hb); clear hb hlog hly)
  have H9 := Lib.hid H8.out
  rw [delpp_nil] at H9
  go_upto_region 10 with (go_at_call 34; refine (ssnapshot_calls _ H9.out (by rintro q ⟨⟩) (by simp) (by simp) (by simp)).mono ?_; rintro e w9 ⟨v9, zs, rfl, hz, hzs, hb⟩; have l1 := cb hb l1; have l2 := cb hb l2; have l3 := cb hb l3; have l4 := cb hb l4; have H10 := Lib.hid (H9.out.below hb); have HB10 := Lib.hid (bl_next HB8.out hb); clear hb; obtain rfl : zs = [] := (by cases zs with | nil => rfl | cons p r => exact absurd hzs (by simp [oxs, srtX])); obtain ⟨A9, c9, rfl⟩ := hz.form; clear hz hzs; unfold evV)
  first | with_reducible refine name_wp ?_ | with_reducible refine name_calls ?_
  intro V hV
  have gV : V.heap[w9.heap.size]? = some (.cells #[.int .i64 2, .string ⟨#[]⟩, .string ⟨#[]⟩, .string ⟨#[]⟩, .int .i64 0, .string ⟨#[]⟩, .bool false, .bool false, .slice none 0 0, .int .i64 3, .slice A9 0 c9] 30) := by rw [hV]; exact blk_new w9 _
  have hbV : Below w9.heap.size w9 V := by rw [hV]; exact (Below.refl _ _).alloc (Nat.le_refl _) _
  clear hV
  have m1 : V.cell? ⟨g, 15, none⟩ = some (.int .i64 2) := cb hbV l1
  have m2 : V.cell? ⟨g, 16, none⟩ = some (.string ⟨#[104, 105, 103, 104]⟩) := cb hbV l2
  have m3 : V.cell? ⟨g, 22, none⟩ = some (.int .i64 1) := cb hbV l3
  have m4 : V.cell? ⟨g, 27, none⟩ = some (.string ⟨#[]⟩) := cb hbV l4
  have e0 := blk_cell gV 0
  have e9 := blk_cell gV 9
  have e10 := blk_cell gV 10
  have HV := Lib.hid (show StoreAt V w.heap.size sp mb 3 [] lv5 _ from H10.out.below hbV)
  have HBV := Lib.hid (bl_next HB10.out hbV)
  clear gV hbV l1 l2 l3 l4
  go_wp2_with (go_at_call 36; refine (sversion_calls _ HV.out).mono ?_; rintro e w10 ⟨rfl, hb⟩; have m1 := cb hb m1; have m2 := cb hb m2; have m3 := cb hb m3; have m4 := cb hb m4; have e0 := cb hb e0; have e9 := cb hb e9; have e10 := cb hb e10; have HBZ := Lib.hid (bl_next HBV.out hb); clear hb)
  go_ret
  exact ⟨rfl, HBZ.out⟩
end Go.Proofs.Ythhfcambdmdgfaa
namespace Go.Proofs.Ythhfcambdmdgfaa
theorem getElem_data (s : ByteArray) (i : Nat) (h : i < s.size) : s.data.toList[i]? = some s[i] := by
  rw [ByteArray.getElem_eq_getElem_data]; simp
theorem findAt_append (a r : ByteArray) (c : UInt8) (ha : ∀ x ∈ a.data.toList, x ≠ c) : findAt (a ++ ⟨#[c]⟩ ++ r) c 0 = a.size := by
  have hz : (a ++ ⟨#[c]⟩ ++ r).size = a.size + 1 + r.size := by simp [ByteArray.size_append]; rfl
  have hd : (a ++ ⟨#[c]⟩ ++ r).data.toList = a.data.toList ++ c :: r.data.toList := by simp
  refine findAt_unique _ c a.size (by omega) ?_ (fun j hj => ?_)
  · have := getElem_data (a ++ ⟨#[c]⟩ ++ r) a.size (by omega)
    rw [hd, List.getElem?_append_right (by simp)] at this
    simpa using this.symm
  · have := getElem_data (a ++ ⟨#[c]⟩ ++ r) j (by omega)
    rw [hd, List.getElem?_append_left (by simpa using hj)] at this
    exact ha _ (List.mem_of_getElem? this)
theorem ba_ext {a b : ByteArray} (h : a.data.toList = b.data.toList) : a = b := ByteArray.ext (Array.toList_inj.1 h)
theorem cutA_append (a r : ByteArray) (c : UInt8) (ha : ∀ x ∈ a.data.toList, x ≠ c) : cutA (a ++ ⟨#[c]⟩ ++ r) c = a := by
  rw [cutA, findAt_append a r c ha]
  refine ba_ext ?_
  simp [ByteArray.data_extract]
theorem cutB_append (a r : ByteArray) (c : UInt8) (ha : ∀ x ∈ a.data.toList, x ≠ c) : cutB (a ++ ⟨#[c]⟩ ++ r) c = r := by
  rw [cutB, findAt_append a r c ha]
  refine ba_ext ?_
  simp [ByteArray.data_extract, ByteArray.size_append, List.drop_append]
  rw [List.drop_of_length_le (by simp), show ({ data := #[c] } : ByteArray).size = 1 from rfl, show a.size + 1 + r.size - (a.size + 1) = r.size from by omega, List.take_of_length_le (l := r.data.toList) (by simp)]
  simp
theorem sign_ne {x : UInt8} (h : signB (x.toNat : Int) = true) : x ≠ 47 := by rintro rfl; simp [signB] at h
theorem right_ne {s : ByteArray} (h : rightB s = true) : ∀ x ∈ s.data.toList, x ≠ 47 := by
  intro x hx
  simp only [rightB, Bool.and_eq_true, lettersTo] at h
  rw [List.take_of_length_le (by simp)] at h
  exact sign_ne (List.all_eq_true.1 h.1.1.1.1 x hx)
theorem keyText_eq (k s n : ByteArray) : keyText k s n = s ++ ⟨#[47]⟩ ++ (k ++ ⟨#[47]⟩ ++ n) := by simp [keyText, ByteArray.append_assoc]
def pS (s : ByteArray) : ByteArray := cutA s 47
def pK (s : ByteArray) : ByteArray := cutA (cutB s 47) 47
def pN (s : ByteArray) : ByteArray := cutB (cutB s 47) 47
theorem parse_text {k s n : ByteArray} (h : keyB k s n = true) : pK (keyText k s n) = k ∧ pS (keyText k s n) = s ∧ pN (keyText k s n) = n := by
  simp only [keyB, Bool.and_eq_true] at h
  have h1 := right_ne h.1.1; have h2 := right_ne h.1.2
  refine ⟨?_, ?_, ?_⟩
  · rw [pK, keyText_eq, cutB_append _ _ _ h1, cutA_append _ _ _ h2]
  · rw [pS, keyText_eq, cutA_append _ _ _ h1]
  · rw [pN, keyText_eq, cutB_append _ _ _ h1, cutB_append _ _ _ h2]
theorem keyText_inj {k s n k' s' n' : ByteArray} (h : keyB k s n = true) (h' : keyB k' s' n' = true) (e : keyText k s n = keyText k' s' n') : k = k' ∧ s = s' ∧ n = n' := by
  obtain ⟨a1, a2, a3⟩ := parse_text h
  obtain ⟨b1, b2, b3⟩ := parse_text h'
  rw [e] at a1 a2 a3
  exact ⟨a1.symm.trans b1, a2.symm.trans b2, a3.symm.trans b3⟩
end Go.Proofs.Ythhfcambdmdgfaa
namespace Go.Proofs.Ythhfcambdmdgfaa
open Go.RowKit Go.Maps Srt
set_option linter.unusedVariables false
set_option linter.unusedSimpArgs false
def cntO (o : ObjD) (l : List ObjD) : Nat := (l.filter fun z => decide (z = o)).length
theorem cnt_stab {l s : List ObjD} (h : Stab kTO l s) (o : ObjD) : cntO o l = cntO o s := by
  unfold cntO
  have e : ∀ q : List ObjD, q.filter (fun z => decide (z = o)) = (q.filter (fun z => decide (kTO z = kTO o))).filter (fun z => decide (z = o)) := fun q => by
    rw [List.filter_filter]
    congr 1; funext z
    by_cases hz : z = o
    · subst hz; simp
    · simp [hz]
  rw [e l, e s, h (kTO o)]
theorem stab_perm {l s : List ObjD} (h : Stab kTO l s) : l.Perm s := by
  rw [List.perm_iff_count]
  intro o
  have := cnt_stab h o
  unfold cntO at this
  rw [List.count_eq_length_filter, List.count_eq_length_filter]
  have e : (fun z => z == o) = fun z : ObjD => decide (z = o) := by funext z; rw [Bool.eq_iff_iff]; simp
  rw [show (fun x => x == o) = fun z : ObjD => decide (z = o) from e]
  exact this
end Go.Proofs.Ythhfcambdmdgfaa
namespace Go.Proofs.Ythhfcambdmdgfaa
open Go.RowKit Go.Maps
set_option linter.unusedVariables false
set_option linter.unusedSimpArgs false
theorem kL_inj {a b : KS} (h : kL a = kL b) : a = b := by
  have h1 := kL_key a
  rw [h] at h1
  exact Subtype.ext (keyV_inj (kS_keyed.inj h1 (kL_key b)))
theorem strictKS : Strict ltKS :=
  ⟨fun a => Go.WideShapes.before_irrefl _, fun h k => Go.WideShapes.before_trans h k, fun {a b} h => Go.ChangeMaps.before_total (kS_law.str (kL_key a)) (kS_law.str (kL_key b)) (fun e => h (kL_inj e))⟩
/-- What holds of the store's map: n is the version. -/
def PInv (M : AM KS OX) (n : Int) : Prop := RiseA ltKS M ∧ ∀ q ∈ M, keyOk q.1.1 = true ∧ q.1.1 = q.2.1.key ∧ rightO q.2.1 = true ∧ q.2.1.ver ≤ n ∧ objSmall q.2.1
theorem rightO_ver {o : ObjD} (h : rightO { o with ver := 1 } = true) {v : Int} (hv : 1 ≤ v) : rightO { o with ver := v } = true := by
  unfold rightO at h ⊢
  simp only [Bool.and_eq_true, decide_eq_true_eq] at h ⊢
  exact ⟨⟨⟨⟨h.1.1.1.1, hv⟩, h.1.1.2⟩, h.1.2⟩, h.2⟩
theorem rightO_key {o : ObjD} (h : rightO o = true) : keyOk o.key = true := by
  unfold rightO at h
  simp only [Bool.and_eq_true] at h
  exact h.1.1.1.1
theorem PInv.nil : PInv [] 0 := ⟨List.Pairwise.nil, by rintro q ⟨⟩⟩
theorem PInv.put {M : AM KS OX} {n : Int} {k : KS} {o : ObjD} {y : Value} (h : PInv M n) (hr : rightO { o with ver := 1 } = true) (hk : k.1 = o.key) (hs : objSmall o) (hn : 0 ≤ n) : PInv (putA ltKS M k ({ o with ver := n + 1 }, y)) (n + 1) :=
  ⟨rise_put strictKS h.1 k _, fun q hq => by
    rcases mem_put.1 hq with rfl | ⟨r, _⟩
    · exact ⟨by rw [hk]; exact rightO_key (o := { o with ver := 1 }) hr, hk, rightO_ver hr (by omega), Int.le_refl _, hs⟩
    · obtain ⟨a, b, c, d, e⟩ := h.2 q r
      exact ⟨a, b, c, by omega, e⟩⟩
theorem PInv.del {M : AM KS OX} {n : Int} {k : KS} (h : PInv M n) : PInv (delA M k) (n + 1) :=
  ⟨rise_del strictKS h.1 k, fun q hq => by
    obtain ⟨a, b, c, d, e⟩ := h.2 q (mem_del.1 hq).1
    exact ⟨a, b, c, by omega, e⟩⟩
theorem PInv.keys {M : AM KS OX} {n : Int} (h : PInv M n) : (M.map (·.1)).Nodup := keys_nodup strictKS h.1
theorem nodup_on {α β : Type} {f : α → β} : ∀ {l : List α}, l.Nodup → (∀ a ∈ l, ∀ b ∈ l, f a = f b → a = b) → (l.map f).Nodup
  | [], _, _ => List.nodup_nil
  | x :: r, h, hf => by
    rw [List.nodup_cons] at h
    rw [List.map_cons, List.nodup_cons]
    refine ⟨fun q => ?_, nodup_on h.2 (fun a ha b hb => hf a (List.mem_cons_of_mem _ ha) b (List.mem_cons_of_mem _ hb))⟩
    obtain ⟨y, hy, e⟩ := List.mem_map.1 q
    have := hf y (List.mem_cons_of_mem _ hy) x (List.mem_cons_self ..) e
    exact h.1 (this ▸ hy)
theorem PInv.texts {M : AM KS OX} {n : Int} (h : PInv M n) : ((M.map (·.2.1)).map kTO).Nodup := by
  rw [List.map_map]
  refine nodup_on (nodup_fst h.keys) (fun a ha b hb e => fst_inj h.keys ha hb ?_)
  obtain ⟨a1, a2, _⟩ := h.2 a ha
  obtain ⟨b1, b2, _⟩ := h.2 b hb
  have e' : kT a.2.1.key = kT b.2.1.key := e
  rw [← a2, ← b2] at e'
  obtain ⟨e1, e2, e3⟩ := keyText_inj a1 b1 e'
  exact Subtype.ext (keyD_ext e1 e2 e3)
end Go.Proofs.Ythhfcambdmdgfaa
namespace Go.Proofs.Ythhfcambdmdgfaa
open Go.RowKit Go.Maps
set_option linter.unusedVariables false
set_option linter.unusedSimpArgs false
def gV (v : Int) : Value := .int .i64 v
def GMap (w : World) (gb : Nat) (G : AM KS Int) : Prop := w.ownsMap Try.prog 24 RV gb G.length (dmA kL gV G)
structure CacheAt (w : World) (base cp ob gb : Nat) (fl : Int) (M : AM KS OX) (G : AM KS Int) : Prop where
  cell : w.heap[cp]? = some (.cells #[.map (some ob), .map (some gb), .int .i64 fl] 98)
  objs : OMap w ob M
  graves : GMap w gb G
  resM : ∀ q ∈ M, ResF w base q.2.2 q.2.1.charge ∧ oIn q.2.1 ∧ keySmall q.2.1.key ∧ q.1.1 = q.2.1.key
  ints : in64 fl ∧ ∀ q ∈ G, in64 q.2
  ge : base ≤ cp ∧ base ≤ ob ∧ base ≤ gb
  ne : ob ≠ gb
section
variable {w w' : World} {base cp ob gb : Nat} {fl : Int} {M : AM KS OX} {G : AM KS Int}
theorem CacheAt.below (h : CacheAt w base cp ob gb fl M G) (hb : Below w.heap.size w w') : CacheAt w' base cp ob gb fl M G :=
  ⟨blk_below h.cell hb, h.objs.below hb, mv_below h.graves hb, fun q hq => ⟨(h.resM q hq).1.below hb, (h.resM q hq).2⟩, h.ints, h.ge, h.ne⟩
theorem CacheAt.ptr (h : CacheAt w base cp ob gb fl M G) : cp < w.heap.size := blk_lt h.cell
end
theorem zero_i64 (w : World) : (zeroValue 2).run Try.prog w = .ok (.int .i64 0) w := by kernel_rfl
set_option maxRecDepth 100000 in
set_option maxHeartbeats 4000000 in
theorem cnew_calls (w : World) : Calls Try.prog 43 #[] w fun e w' => ∃ cp ob gb, e = .returned (.pointer (some ⟨cp, 0, none⟩)) ∧ CacheAt w' w.heap.size cp ob gb 0 [] [] ∧ Below w.heap.size w w' := by
  have hmm := @run_makeMap Try.prog
  have HO := Lib.hid (World.ownsMap_made w Try.prog 24 RV)
  have HG := Lib.hid (fun (U : World) => World.ownsMap_made U Try.prog 24 RV)
  go_enter Try.func43, Try.ntmps43
  go_wp2_with fail
  go_ret
  refine ⟨w.heap.size + 2, w.heap.size, w.heap.size + 1, rfl, ⟨?_, ?_, ?_, by rintro q ⟨⟩, ⟨(show in64 0 by unfold in64; omega), by rintro q ⟨⟩⟩, by omega, by omega⟩, (((Below.refl _ _).alloc (Nat.le_refl _) _).alloc (by simp) _).alloc (by simp; omega) _⟩
  · have h := blk_newAt (((w.alloc (.map #[] 0)).alloc (.map #[] 0))) (.cells #[.map (some w.heap.size), .map (some (w.heap.size + 1)), .int .i64 0] 98) (k := w.heap.size + 2) (by simp)
    exact h
  · exact OMap.below (M := []) (OMap.below (M := []) (mv_tight HO.out) ((Below.refl _ _).alloc (Nat.le_refl _) _)) ((Below.refl _ _).alloc (Nat.le_refl _) _)
  · have h := HG.out (w.alloc (.map #[] 0))
    rw [World.size_alloc] at h
    exact mv_below (mv_tight h) ((Below.refl _ _).alloc (Nat.le_refl _) _)
end Go.Proofs.Ythhfcambdmdgfaa
namespace Go.Proofs.Ythhfcambdmdgfaa
open Go.RowKit Go.Maps
set_option linter.unusedVariables false
set_option linter.unusedSimpArgs false
def verG (G : AM KS Int) (k : KS) : Int := (getA G k).getD 0
def knownC (fl : Int) (M : AM KS OX) (G : AM KS Int) (k : KS) : Int := max (max fl (objOf M k).ver) (verG G k)
section
variable {w w' : World} {base cp ob gb : Nat} {fl : Int} {M : AM KS OX} {G : AM KS Int}
theorem CacheAt.look (h : CacheAt w base cp ob gb fl M G) (k : KS) {kk : KeyD} (hk : k.1 = kk) :
    ∃ (q : ObjD) (A : Option Addr) (n c : Nat), q = objOf M k ∧ ∀ U, Below w.heap.size w U → (Instr.lookup 92 (.map (some ob)) (.agg #[.string kk.kind, .string kk.space, .string kk.name]) false).run Try.prog U = .ok (.agg #[.string q.key.kind, .string q.key.space, .string q.key.name, .int .i64 q.ver, .string q.cls, .bool q.term, .bool q.best, .slice A n c]) U := by
  subst hk
  have z := val_dmA kL_lit (fun p : OX => Value.agg (objX p).toArray) M k (.agg #[.string ⟨#[]⟩, .string ⟨#[]⟩, .string ⟨#[]⟩, .int .i64 0, .string ⟨#[]⟩, .bool false, .bool false, .slice none 0 0])
  cases hg : getA M k with
  | none =>
    refine ⟨zeroO, none, 0, 0, by unfold objOf; rw [hg]; rfl, fun U hb => ?_⟩
    have q := mv_look (h.objs.below hb) kS_keyed Try.underlying92 (zero_obj U) (kL_key k)
    rw [z, hg] at q; exact q
  | some p =>
    obtain ⟨o, so⟩ := p
    obtain ⟨g, hso⟩ := (h.resM _ (getA_mem hg)).1.form
    simp only at hso
    subst hso
    refine ⟨o, some ⟨g, 0, none⟩, o.charge.length, o.charge.length, by unfold objOf; rw [hg]; rfl, fun U hb => ?_⟩
    have q := mv_look (h.objs.below hb) kS_keyed Try.underlying92 (zero_obj U) (kL_key k)
    rw [z, hg] at q; exact q
theorem CacheAt.grave (h : CacheAt w base cp ob gb fl M G) (k : KS) {kk : KeyD} (hk : k.1 = kk) : ∀ U, Below w.heap.size w U → (Instr.lookup 96 (.map (some gb)) (.agg #[.string kk.kind, .string kk.space, .string kk.name]) false).run Try.prog U = .ok (.int .i64 (verG G k)) U := by
  subst hk
  intro U hb
  have q := mv_look (mv_below h.graves hb) kS_keyed Try.underlying96 (zero_i64 U) (kL_key k)
  rw [val_dmA kL_lit gV G k (.int .i64 0)] at q
  unfold verG
  cases hg : getA G k with
  | none => rw [hg] at q; exact q
  | some v => rw [hg] at q; exact q
end
theorem field_ver (w : World) (v0 v1 v2 v3 v4 v5 v6 v7 : Value) : (Instr.field 27 (.agg #[v0, v1, v2, v3, v4, v5, v6, v7]) 1).run Try.prog w = .ok v3 w := by kernel_rfl
set_option maxRecDepth 100000 in
set_option maxHeartbeats 8000000 in
theorem cknown_walk (w : World) {cp ob gb : Nat} {fl : Int} {kk : KeyD} {q : ObjD} {A : Option Addr} {n c : Nat} {vg kn : Int} (hc : w.heap[cp]? = some (.cells #[.map (some ob), .map (some gb), .int .i64 fl] 98))
    (hl1 : ∀ U, Below w.heap.size w U → (Instr.lookup 92 (.map (some ob)) (.agg #[.string kk.kind, .string kk.space, .string kk.name]) false).run Try.prog U = .ok (.agg #[.string q.key.kind, .string q.key.space, .string q.key.name, .int .i64 q.ver, .string q.cls, .bool q.term, .bool q.best, .slice A n c]) U)
    (hl2 : ∀ U, Below w.heap.size w U → (Instr.lookup 96 (.map (some gb)) (.agg #[.string kk.kind, .string kk.space, .string kk.name]) false).run Try.prog U = .ok (.int .i64 vg) U) (he : kn = max (max fl q.ver) vg) :
    Calls Try.prog 53 #[.pointer (some ⟨cp, 0, none⟩), .agg #[.string kk.kind, .string kk.space, .string kk.name]] w fun e w' => e = .returned (.int .i64 kn) ∧ Below w.heap.size w w' := by
  have hcp := blk_lt hc
  have m0 : w.cell? ⟨cp, 0, none⟩ = some (.map (some ob)) := blk_cell hc 0
  have m1 : w.cell? ⟨cp, 1, none⟩ = some (.map (some gb)) := blk_cell hc 1
  have m2 : w.cell? ⟨cp, 2, none⟩ = some (.int .i64 fl) := blk_cell hc 2
  have HL1 := Lib.hid hl1
  have HL2 := Lib.hid hl2
  have HE := Lib.hid he
  have hfv := fun (U : World) => field_ver U (.string q.key.kind) (.string q.key.space) (.string q.key.name) (.int .i64 q.ver) (.string q.cls) (.bool q.term) (.bool q.best) (.slice A n c)
  clear hc hl1 hl2 he
  go_enter Try.func53, Try.ntmps53
  go_upto_region 3 with fail
  first | with_reducible refine name_wp ?_ | with_reducible refine name_calls ?_
  intro W hWeq
  have g0 : W.heap[w.heap.size]? = some (.cells #[.string kk.kind, .string kk.space, .string kk.name] 24) := by rw [hWeq]; repeat (first | (with_reducible exact blk_newAt _ _ (by simp)) | with_reducible refine blk_drew ?_ | with_reducible refine blk_dN ?_ _ | with_reducible refine blk_old ?_ _)
  have hw : Below w.heap.size w W := by rw [hWeq]; repeat (first | with_reducible exact Below.refl _ _ | with_reducible refine Below.drew ?_ | with_reducible refine bl_dN ?_ _ | with_reducible refine Below.alloc ?_ (by simp <;> omega) _)
  clear hWeq
  have hz : w.heap.size + 1 ≤ W.heap.size := by have := blk_lt g0; omega
  have c0_0 : W.cell? ⟨w.heap.size, 0, none⟩ = some (.string kk.kind) := blk_cell g0 0
  have c0_1 : W.cell? ⟨w.heap.size, 1, none⟩ = some (.string kk.space) := blk_cell g0 1
  have c0_2 : W.cell? ⟨w.heap.size, 2, none⟩ = some (.string kk.name) := blk_cell g0 2
  have f0 : ∀ j, W.frozen? ⟨w.heap.size, j, none⟩ = false := blk_free g0
  have hB : Below W.heap.size W W := Below.refl _ _
  have G0 := Lib.hid g0; clear g0
  have F0 := Lib.hid f0; clear f0
  have Hw := Lib.hid hw; clear hw
  have m0 := cb Hw.out m0
  have m1 := cb Hw.out m1
  have m2 := cb Hw.out m2
  have hB := Below.refl W.heap.size W
  have hB := hB.drew
  refine region_seq (fun w' => Below W.heap.size W w') [(0, true), (1, true), (2, true), (3, true), (4, true), (5, true), (6, true), (7, true), (8, true), (9, true), (10, true), (11, true), (12, true), (13, true), (14, true), (15, true), (16, true), (17, true), (18, true)] (by kernel_rfl) (by kernel_rfl) (fun _ _ _ _ h => h) hB ?_
  try generalize World.drew _ = wS at hB ⊢
  refine seq_take (v := ?_) (a' := ?_) (some 7) rfl rfl (by rfl) ?_ ?_ ?_
  rotate_left; rotate_left
  · intro w' hS; go_simp; with_reducible rfl
  · simp only [Act.put, List.setIfInBounds_toArray, List.set_cons_zero, List.set_cons_succ]; rfl
  refine seq_take (v := ?_) (a' := ?_) (some 8) rfl rfl (by rfl) ?_ ?_ ?_
  rotate_left; rotate_left
  · intro w' hS; go_simp; with_reducible rfl
  · simp only [Act.put, List.setIfInBounds_toArray, List.set_cons_zero, List.set_cons_succ]; rfl
  refine seq_take (v := ?_) (a' := ?_) (some 9) rfl rfl (by rfl) ?_ ?_ ?_
  rotate_left; rotate_left
  · intro w' hS; go_simp; with_reducible rfl
  · simp only [Act.put, List.setIfInBounds_toArray, List.set_cons_zero, List.set_cons_succ]; rfl
  refine seq_take (v := ?_) (a' := ?_) (some 10) rfl rfl (by rfl) ?_ ?_ ?_
  rotate_left; rotate_left
  · intro w' hS; have q0 := cb hS m0; have q1 := cb hS m1; have q2 := cb hS m2; have q3 := cb hS c0_0; have q4 := cb hS c0_1; have q5 := cb hS c0_2; have hl1 := HL1.out _ (bl_from Hw.out hS); have hl2 := HL2.out _ (bl_from Hw.out hS); go_simp; with_reducible rfl
  · simp only [Act.put, List.setIfInBounds_toArray, List.set_cons_zero, List.set_cons_succ]; rfl
  refine seq_take (v := ?_) (a' := ?_) (some 11) rfl rfl (by rfl) ?_ ?_ ?_
  rotate_left; rotate_left
  · intro w' hS; go_simp; with_reducible rfl
  · simp only [Act.put, List.setIfInBounds_toArray, List.set_cons_zero, List.set_cons_succ]; rfl
  refine seq_take (v := ?_) (a' := ?_) (some 12) rfl rfl (by rfl) ?_ ?_ ?_
  rotate_left; rotate_left
  · intro w' hS; go_simp; with_reducible rfl
  · simp only [Act.put, List.setIfInBounds_toArray, List.set_cons_zero, List.set_cons_succ]; rfl
  refine seq_take (v := ?_) (a' := ?_) (some 13) rfl rfl (by rfl) ?_ ?_ ?_
  rotate_left; rotate_left
  · intro w' hS; go_simp; with_reducible rfl
  · simp only [Act.put, List.setIfInBounds_toArray, List.set_cons_zero, List.set_cons_succ]; rfl
  refine seq_take (v := ?_) (a' := ?_) (some 14) rfl rfl (by rfl) ?_ ?_ ?_
  rotate_left; rotate_left
  · intro w' hS; have q0 := cb hS m0; have q1 := cb hS m1; have q2 := cb hS m2; have q3 := cb hS c0_0; have q4 := cb hS c0_1; have q5 := cb hS c0_2; have hl1 := HL1.out _ (bl_from Hw.out hS); have hl2 := HL2.out _ (bl_from Hw.out hS); go_simp; with_reducible rfl
  · simp only [Act.put, List.setIfInBounds_toArray, List.set_cons_zero, List.set_cons_succ]; rfl
  refine seq_take (v := ?_) (a' := ?_) (some 15) rfl rfl (by rfl) ?_ ?_ ?_
  rotate_left; rotate_left
  · intro w' hS; have q0 := cb hS m0; have q1 := cb hS m1; have q2 := cb hS m2; have q3 := cb hS c0_0; have q4 := cb hS c0_1; have q5 := cb hS c0_2; have hl1 := HL1.out _ (bl_from Hw.out hS); have hl2 := HL2.out _ (bl_from Hw.out hS); go_simp; with_reducible rfl
  · simp only [Act.put, List.setIfInBounds_toArray, List.set_cons_zero, List.set_cons_succ]; rfl
  refine seq_take (v := ?_) (a' := ?_) (some 16) rfl rfl (by rfl) ?_ ?_ ?_
  rotate_left; rotate_left
  · intro w' hS; have q0 := cb hS m0; have q1 := cb hS m1; have q2 := cb hS m2; have q3 := cb hS c0_0; have q4 := cb hS c0_1; have q5 := cb hS c0_2; have hl1 := HL1.out _ (bl_from Hw.out hS); have hl2 := HL2.out _ (bl_from Hw.out hS); go_simp; with_reducible rfl
  · simp only [Act.put, List.setIfInBounds_toArray, List.set_cons_zero, List.set_cons_succ]; rfl
  refine seq_take (v := ?_) (a' := ?_) (some 17) rfl rfl (by rfl) ?_ ?_ ?_
  rotate_left; rotate_left
  · intro w' hS; go_simp; with_reducible rfl
  · simp only [Act.put, List.setIfInBounds_toArray, List.set_cons_zero, List.set_cons_succ]; rfl
  refine seq_take (v := ?_) (a' := ?_) (some 18) rfl rfl (by rfl) ?_ ?_ ?_
  rotate_left; rotate_left
  · intro w' hS; go_simp; with_reducible rfl
  · simp only [Act.put, List.setIfInBounds_toArray, List.set_cons_zero, List.set_cons_succ]; rfl
  refine seq_take (v := ?_) (a' := ?_) (some 19) rfl rfl (by rfl) ?_ ?_ ?_
  rotate_left; rotate_left
  · intro w' hS; go_simp; with_reducible rfl
  · simp only [Act.put, List.setIfInBounds_toArray, List.set_cons_zero, List.set_cons_succ]; rfl
  refine seq_take (v := ?_) (a' := ?_) (some 20) rfl rfl (by rfl) ?_ ?_ ?_
  rotate_left; rotate_left
  · intro w' hS; go_simp; with_reducible rfl
  · simp only [Act.put, List.setIfInBounds_toArray, List.set_cons_zero, List.set_cons_succ]; rfl
  refine seq_take (v := ?_) (a' := ?_) (some 21) rfl rfl (by rfl) ?_ ?_ ?_
  rotate_left; rotate_left
  · intro w' hS; have q0 := cb hS m0; have q1 := cb hS m1; have q2 := cb hS m2; have q3 := cb hS c0_0; have q4 := cb hS c0_1; have q5 := cb hS c0_2; have hl1 := HL1.out _ (bl_from Hw.out hS); have hl2 := HL2.out _ (bl_from Hw.out hS); go_simp; with_reducible rfl
  · simp only [Act.put, List.setIfInBounds_toArray, List.set_cons_zero, List.set_cons_succ]; rfl
  refine seq_take (v := ?_) (a' := ?_) (some 22) rfl rfl (by rfl) ?_ ?_ ?_
  rotate_left; rotate_left
  · intro w' hS; have q0 := cb hS m0; have q1 := cb hS m1; have q2 := cb hS m2; have q3 := cb hS c0_0; have q4 := cb hS c0_1; have q5 := cb hS c0_2; have hl1 := HL1.out _ (bl_from Hw.out hS); have hl2 := HL2.out _ (bl_from Hw.out hS); go_simp; with_reducible rfl
  · simp only [Act.put, List.setIfInBounds_toArray, List.set_cons_zero, List.set_cons_succ]; rfl
  refine seq_take (v := ?_) (a' := ?_) (some 23) rfl rfl (by rfl) ?_ ?_ ?_
  rotate_left; rotate_left
  · intro w' hS; have q0 := cb hS m0; have q1 := cb hS m1; have q2 := cb hS m2; have q3 := cb hS c0_0; have q4 := cb hS c0_1; have q5 := cb hS c0_2; have hl1 := HL1.out _ (bl_from Hw.out hS); have hl2 := HL2.out _ (bl_from Hw.out hS); go_simp; with_reducible rfl
  · simp only [Act.put, List.setIfInBounds_toArray, List.set_cons_zero, List.set_cons_succ]; rfl
  refine seq_take (v := ?_) (a' := ?_) (some 24) rfl rfl (by rfl) ?_ ?_ ?_
  rotate_left; rotate_left
  · intro w' hS; go_simp; with_reducible rfl
  · simp only [Act.put, List.setIfInBounds_toArray, List.set_cons_zero, List.set_cons_succ]; rfl
  refine seq_take (v := ?_) (a' := ?_) (some 4) rfl rfl (by rfl) ?_ ?_ ?_
  rotate_left; rotate_left
  · intro w' hS; go_simp; with_reducible rfl
  · simp only [Act.put, List.setIfInBounds_toArray, List.set_cons_zero, List.set_cons_succ]; rfl
  refine seq_done ?_
  go_wp2_with fail
  all_goals go_ret
  all_goals exact ⟨ret_int (by have := HE.out; omega), bl_from Hw.out hB⟩
theorem cknown_calls (w : World) {base cp ob gb : Nat} {fl : Int} {M : AM KS OX} {G : AM KS Int} (h : CacheAt w base cp ob gb fl M G) (k : KS) {kk : KeyD} (hk : k.1 = kk) :
    Calls Try.prog 53 #[.pointer (some ⟨cp, 0, none⟩), .agg #[.string kk.kind, .string kk.space, .string kk.name]] w fun e w' => e = .returned (.int .i64 (knownC fl M G k)) ∧ Below w.heap.size w w' := by
  obtain ⟨q, A, n, c, hqe, hl1⟩ := h.look k hk
  exact cknown_walk w h.cell hl1 (h.grave k hk) (by rw [hqe]; rfl)
end Go.Proofs.Ythhfcambdmdgfaa
namespace Go.Proofs.Ythhfcambdmdgfaa
open Go.RowKit Go.Maps
set_option linter.unusedVariables false
set_option linter.unusedSimpArgs false
/-- Is an event that may be stale? -/
def staleC (e : EvD) (fl : Int) (M : AM KS OX) (G : AM KS Int) (k : KS) : Bool := decide ((verE e).1 ≤ if e.kind = 0 ∨ e.kind = 1 then knownC fl M G k else fl)
set_option maxRecDepth 100000 in
set_option maxHeartbeats 8000000 in
theorem cstale_calls (w : World) {base cp ob gb : Nat} {fl : Int} {M : AM KS OX} {G : AM KS Int} (h : CacheAt w base cp ob gb fl M G) (kd : Int) {o : ObjD} {sl : Value} (ev : Int) {ol : Value} {xs : List OX} (k : KS) (hk : k.1 = o.key) (ho : ObjS w sl o) (hs : objSmall o) (hx : ObjsS w ol xs) (hxs : OSmall (oxs xs)) (hkd : in64 kd) (hl : xs.length ≤ 1000000) :
    Calls Try.prog 71 #[.pointer (some ⟨cp, 0, none⟩), evV kd o sl ev ol] w fun e w' => e = .returned (.bool (staleC ⟨kd, o, ev, oxs xs⟩ fl M G k)) ∧ Below w.heap.size w w' := by
  have HC := Lib.hid h
  have HV := Lib.hid (fun (U : World) (hb : Below w.heap.size w U) => evver_calls U kd ev (ho.below hb) hs (hx.below hb) hxs hkd hl)
  obtain ⟨ao, co, rfl⟩ := ho.1.form
  obtain ⟨al, cl, rfl⟩ := hx.form
  have HKN := Lib.hid (fun (U : World) (hb : Below w.heap.size w U) => cknown_calls U (h.below hb) k hk)
  have m2 : w.cell? ⟨cp, 2, none⟩ = some (.int .i64 fl) := blk_cell h.cell 2
  obtain ⟨vv, hvv⟩ : ∃ v, (verE ⟨kd, o, ev, oxs xs⟩).1 = v := ⟨_, rfl⟩
  obtain ⟨ve, hve⟩ : ∃ v, (verE ⟨kd, o, ev, oxs xs⟩).2 = v := ⟨_, rfl⟩
  obtain ⟨kn, hkn⟩ : ∃ v, knownC fl M G k = v := ⟨_, rfl⟩
  have HST := Lib.hid (show staleC ⟨kd, o, ev, oxs xs⟩ fl M G k = decide (vv ≤ if kd = 0 ∨ kd = 1 then kn else fl) by unfold staleC; rw [hvv, hkn])
  rw [hvv, hve] at HV
  rw [hkn] at HKN
  unfold evV at HV ⊢
  generalize staleC ⟨kd, o, ev, oxs xs⟩ fl M G k = st at HST ⊢
  clear h ho hx hxs hvv hve hkn
  go_enter Try.func71, Try.ntmps71
  go_upto_region 1 with fail
  first | with_reducible refine name_wp ?_ | with_reducible refine name_calls ?_
  intro W hW
  have gE : W.heap[w.heap.size]? = some (.cells #[.int .i64 kd, .string o.key.kind, .string o.key.space, .string o.key.name, .int .i64 o.ver, .string o.cls, .bool o.term, .bool o.best, .slice ao o.charge.length co, .int .i64 ev, .slice al xs.length cl] 30) := by rw [hW]; exact blk_new w _
  have hbW : Below w.heap.size w W := by rw [hW]; exact (Below.refl _ _).alloc (Nat.le_refl _) _
  clear hW
  have HBW := Lib.hid hbW
  have HE := Lib.hid gE
  have c0 : W.cell? ⟨w.heap.size, 0, none⟩ = some (.int .i64 kd) := blk_cell gE 0
  have c1 : W.cell? ⟨w.heap.size, 1, none⟩ = some (.string o.key.kind) := blk_cell gE 1
  have c2 : W.cell? ⟨w.heap.size, 2, none⟩ = some (.string o.key.space) := blk_cell gE 2
  have c3 : W.cell? ⟨w.heap.size, 3, none⟩ = some (.string o.key.name) := blk_cell gE 3
  have c4 : W.cell? ⟨w.heap.size, 4, none⟩ = some (.int .i64 o.ver) := blk_cell gE 4
  have c5 : W.cell? ⟨w.heap.size, 5, none⟩ = some (.string o.cls) := blk_cell gE 5
  have c6 : W.cell? ⟨w.heap.size, 6, none⟩ = some (.bool o.term) := blk_cell gE 6
  have c7 : W.cell? ⟨w.heap.size, 7, none⟩ = some (.bool o.best) := blk_cell gE 7
  have c8 : W.cell? ⟨w.heap.size, 8, none⟩ = some (.slice ao o.charge.length co) := blk_cell gE 8
  have c9 : W.cell? ⟨w.heap.size, 9, none⟩ = some (.int .i64 ev) := blk_cell gE 9
  have c10 : W.cell? ⟨w.heap.size, 10, none⟩ = some (.slice al xs.length cl) := blk_cell gE 10
  go_upto_region 2 with (go_at_call 14; refine (HV.out W HBW.out).mono ?_; rintro e w1 ⟨rfl, hb⟩; have HB1 := Lib.hid hb; clear hb)
  clear c0 c1 c2 c3 c4 c5 c6 c7 c8 c9 c10
  have g1 := blk_below HE.out HB1.out
  have d0 : w1.cell? ⟨w.heap.size, 0, none⟩ = some (.int .i64 kd) := blk_cell g1 0
  have d1 : w1.cell? ⟨w.heap.size, 1, none⟩ = some (.string o.key.kind) := blk_cell g1 1
  have d2 : w1.cell? ⟨w.heap.size, 2, none⟩ = some (.string o.key.space) := blk_cell g1 2
  have d3 : w1.cell? ⟨w.heap.size, 3, none⟩ = some (.string o.key.name) := blk_cell g1 3
  have HBw := Lib.hid (bl_from HBW.out HB1.out)
  have n2 := cb HBw.out m2
  clear g1 gE hbW
  by_cases h01 : kd = 0 ∨ kd = 1
  · have HS2 := Lib.hid (show st = decide (vv ≤ kn) by rw [HST.out, if_pos h01])
    rcases h01 with h0 | h1
    · subst h0
      go_wp2_with (go_at_call 53; refine (HKN.out _ HBw.out).mono ?_; rintro e w2 ⟨rfl, hb⟩; have HB2 := Lib.hid (bl_next HBw.out hb); clear hb)
      all_goals go_ret
      all_goals exact ⟨ret_bool (by first | (rw [HS2.out]; done) | (rw [HS2.out]; simp [*]; done) | (rw [HS2.out]; simp; omega)), HB2.out⟩
    · subst h1
      go_wp2_with (go_at_call 53; refine (HKN.out _ HBw.out).mono ?_; rintro e w2 ⟨rfl, hb⟩; have HB2 := Lib.hid (bl_next HBw.out hb); clear hb)
      all_goals go_ret
      all_goals exact ⟨ret_bool (by first | (rw [HS2.out]; done) | (rw [HS2.out]; simp [*]; done) | (rw [HS2.out]; simp; omega)), HB2.out⟩
  · have HS2 := Lib.hid (show st = decide (vv ≤ fl) by rw [HST.out, if_neg h01])
    have k0 : (kd == 0) = false := by simp; exact fun e => h01 (.inl e)
    have k1 : (kd == 1) = false := by simp; exact fun e => h01 (.inr e)
    clear h01
    go_wp2_with fail
    all_goals go_ret
    all_goals exact ⟨ret_bool (by first | (rw [HS2.out]; done) | (rw [HS2.out]; simp [*]; done) | (rw [HS2.out]; simp; omega)), HBw.out⟩
end Go.Proofs.Ythhfcambdmdgfaa
namespace Go.Proofs.Ythhfcambdmdgfaa
open Go.RowKit Go.Maps Srt
set_option linter.unusedVariables false
set_option linter.unusedSimpArgs false
theorem app_obj_at {o : Oper} {a : Act} {K : Act → World → Prop} {Q : Exit → Act → World → Prop} {w : World} (s x : Operand)
    (ho : o.op = .call { callee := .builtin .append, args := #[s, x], argTypes := #[28, 28] })
    (base : Nat) {tb : TypeId} (v : Value) (n : Nat) (l : List OX) (u : ObjD) (g n1 c1 : Nat) (hs : a.eval s = v) (hown : w.ownsRow base 27 8 v n (objC l)) (g0 c : Nat) (hx : a.eval x = .slice (some ⟨g0, 0, none⟩) 1 c)
    (hcells : w.heap[g0]? = some (.cells #[.string u.key.kind, .string u.key.space, .string u.key.name, .int .i64 u.ver, .string u.cls, .bool u.term, .bool u.best, .slice (some ⟨g, 0, none⟩) n1 c1] tb)) (hbase : base ≤ w.heap.size) (hlen : n + 1 ≤ 100000000)
    (h : ∀ g2 cap w1, w1.ownsRow base 27 8 (.slice (some ⟨g2, 0, none⟩) (n + 1) cap) (n + 1) (objC (l ++ [(u, .slice (some ⟨g, 0, none⟩) n1 c1)])) → Kept (fun k => v.ownBlock = some k) w w1 → K (a.put o.dst (.slice (some ⟨g2, 0, none⟩) (n + 1) cap)) w1) : o.wp Try.prog a w K Q := by
  obtain ⟨i0, hi, hz0, hz1, hz2⟩ := info_parts info_obj
  refine app_rw_at s x _ ho base _ i0 _ 8 104 Try.underlying28 hi hz0 hz1 hz2 rfl (by decide) v n (objC l) [.string u.key.kind, .string u.key.space, .string u.key.name, .int .i64 u.ver, .string u.cls, .bool u.term, .bool u.best, .slice (some ⟨g, 0, none⟩) n1 c1] hs hown g0 c hx hcells rfl (by simp [Value.oneCell']) hbase hlen (by decide) ?_
  intro g2 cap w1 h1 h2 h3
  refine h g2 cap w1 ?_ h2
  rw [objC_app]
  exact h1
structure KeyAt (w : World) (b off : Nat) (k : KS) : Prop where
  c0 : w.cell? ⟨b, off, none⟩ = some (.string k.1.kind)
  c1 : w.cell? ⟨b, off + 1, none⟩ = some (.string k.1.space)
  c2 : w.cell? ⟨b, off + 2, none⟩ = some (.string k.1.name)
theorem KeyAt.below {w w' : World} {b off : Nat} {k : KS} (h : KeyAt w b off k) (hb : Below w.heap.size w w') : KeyAt w' b off k := ⟨cb hb h.c0, cb hb h.c1, cb hb h.c2⟩
theorem key_at {w : World} {v : Value} {ks : List KS} (h : SliS w v 3 ks.length (keyC ks)) {k : Nat} (hk : k < ks.length) : ∃ b off c, v = .slice (some ⟨b, off, none⟩) ks.length c ∧ KeyAt w b (off + k * 3) (ks[k]'hk) := by
  obtain ⟨b, off, c, he, _, hx⟩ := h.at' hk
  have z : ∀ j u, j < 3 → (encK (ks[k]'hk))[j]? = some u → w.cell? ⟨b, off + k * 3 + j, none⟩ = some u := fun j u hj e => hx j hj u (by rw [show keyC ks = ks.flatMap encK from rfl, flat_at encK 3 (fun _ => rfl) ks k hk j hj]; exact e)
  exact ⟨b, off, c, he, z 0 _ (by omega) rfl, z 1 _ (by omega) rfl, z 2 _ (by omega) rfl⟩
theorem getA_has {β : Type} {M : AM KS β} {k : KS} (h : hasA M k = true) : ∃ v, getA M k = some v := by
  rw [hasA_get] at h; exact Option.isSome_iff_exists.1 h
/-- What Objects yields. -/
def ObjsO (w : World) (M : AM KS OX) (e : Ending) (w' : World) : Prop := ∃ A c zs ks, e = .returned (.slice A zs.length c) ∧ ObjsF w' w.heap.size (.slice A zs.length c) zs ∧ oxs zs = ks.map (objOf M) ∧ AllK M ks ∧ ks.Pairwise (fun a b => ltT b a = false) ∧ Below w.heap.size w w'
set_option maxRecDepth 100000 in
set_option maxHeartbeats 8000000 in
theorem cobjects_calls (w : World) {base cp ob gb : Nat} {fl : Int} {M : AM KS OX} {G : AM KS Int} (h : CacheAt w base cp ob gb fl M G) (hS : ∀ q ∈ M, objSmall q.2.1) (hM : M.length ≤ 1000000) :
    Calls Try.prog 47 #[.pointer (some ⟨cp, 0, none⟩)] w (ObjsO w M) := by
  have m0 : w.cell? ⟨cp, 0, none⟩ = some (.map (some ob)) := blk_cell h.cell 0
  have HC := Lib.hid h; have HS := Lib.hid hS
  have HGR := Lib.hid (fun (U : World) (hb : Below w.heap.size w U) => h.objs.below hb)
  have HL := Lib.hid hM
  clear h hM hS
  go_enter Try.func47, Try.ntmps47
  go_wp2_with (first | (go_at_call 77; refine (keysO_calls w (some ob)).mono ?_; rintro e w1 ⟨rfl, hc, hb⟩; have HST := Lib.hid (keysO_stops 4 (by decide) w.heap.size ob _ M fO w1 hc (HGR.out w1 hb)); have HB1 := Lib.hid hb; clear hc hb) | (go_at_call 76; refine (sortedFunc_calls w1 trivial (enters_of Try.func102 (by kernel_rfl) rfl) HST.out HL.out).mono ?_; rintro e w2 ⟨A, c, ks, rfl, hr, ha, hs, hb⟩; have HF := Lib.hid (And.intro hr (And.intro ha hs)); have HB2 := Lib.hid (bl_from HB1.out hb); clear hr ha hs hb))
  have HKS := Lib.hid (sliS_of HF.out.1)
  have HNIL := Lib.hid (objsF_nil w2 w2.heap.size)
  have HKL := Lib.hid (Nat.le_trans (allK_len HF.out.2.1) HL.out)
  obtain ⟨V, rfl⟩ : ∃ V : World, V = w2 := ⟨_, rfl⟩
  go_loopw [3, 15] (fun s i wr => ∃ (j : Nat) (B : Option Addr) (d : Nat) (ys : List OX), i = .int .i64 (j : Int) ∧ j ≤ ks.length ∧ s = .slice B j d ∧ Hid (ys.length = j ∧ ObjsF wr V.heap.size (.slice B j d) ys ∧ oxs ys = (ks.take j).map (objOf M)) ∧ Hid (Below V.heap.size V wr)) (fun _ i _ => ks.length - (intOf i).toNat)
  case atStart => exact ⟨0, none, 0, [], rfl, Nat.zero_le _, rfl, Lib.hid ⟨rfl, HNIL.out, rfl⟩, Lib.hid (Below.refl _ _)⟩
  case round =>
    obtain ⟨j, B, d, ys, rfl, hj, rfl, HY, HBr⟩ := hrel
    by_cases hjl : j < ks.length
    · have hjI : (j : Int) < ks.length := by omega
      obtain ⟨b, of, c9, he, hq⟩ := key_at HKS.out hjl
      cases he
      have HT := Lib.hid (show (ks.take (j + 1)).map (objOf M) = (ks.take j).map (objOf M) ++ [objOf M (ks[j]'hjl)] by rw [List.take_succ_eq_append_getElem hjl, List.map_append]; rfl)
      have hhas := (HF.out.2.1.2 _).1 (List.getElem_mem hjl)
      generalize ks[j]'hjl = k at hq HT hhas
      obtain ⟨⟨o, so⟩, hg⟩ := getA_has hhas
      have hmem := getA_mem hg
      have hob : objOf M k = o := by unfold objOf; rw [hg]; rfl
      rw [hob] at HT
      obtain ⟨hrf, hoi, _, _⟩ := HC.out.resM _ hmem
      obtain ⟨g0, hg0⟩ := hrf.form
      simp only at hg0 hrf hoi
      subst hg0
      have HSM := Lib.hid (show objSmall o from HS.out _ hmem)
      obtain ⟨U, rfl⟩ : ∃ U : World, U = wr := ⟨_, rfl⟩
      have q := hq.below HBr.out
      have d0 := q.c0
      have d1 := q.c1
      have d2 := q.c2
      have HBU := Lib.hid (bl_from HB2.out HBr.out)
      have m0 := cb HBU.out m0
      have HLK : Hid (∀ X, Below U.heap.size U X → (Instr.lookup 92 (.map (some ob)) (.agg #[.string k.1.kind, .string k.1.space, .string k.1.name]) false).run Try.prog X = .ok (.agg #[.string o.key.kind, .string o.key.space, .string o.key.name, .int .i64 o.ver, .string o.cls, .bool o.term, .bool o.best, .slice (some ⟨g0, 0, none⟩) o.charge.length o.charge.length]) X) := Lib.hid fun X hX => by
        have q := mv_look (HC.out.objs.below (bl_next HBU.out hX)) kS_keyed Try.underlying92 (zero_obj X) (kL_key k)
        rw [val_dmA kL_lit (fun p : OX => Value.agg (objX p).toArray) M k, hg] at q; exact q
      have HOS := Lib.hid (show ObjS U (.slice (some ⟨g0, 0, none⟩) o.charge.length o.charge.length) o from ObjS.below ⟨hrf.resS hoi.2, hoi.1⟩ HBU.out)
      clear q hq hhas hg hmem hob hrf hoi
      go_upto_region 7 with fail
      first | with_reducible refine name_wp ?_ | with_reducible refine name_calls ?_
      intro W hW
      have hw9 : Below U.heap.size U W := by rw [hW]; exact (Below.refl U.heap.size U).alloc (Nat.le_refl _) _
      have e0 : W.cell? ⟨U.heap.size, 0, none⟩ = some (.string k.1.kind) := by rw [hW]; exact blk_cell (blk_new U _) 0
      have e1 : W.cell? ⟨U.heap.size, 1, none⟩ = some (.string k.1.space) := by rw [hW]; exact blk_cell (blk_new U _) 1
      have e2 : W.cell? ⟨U.heap.size, 2, none⟩ = some (.string k.1.name) := by rw [hW]; exact blk_cell (blk_new U _) 2
      have m0 := cb hw9 m0
      clear hW d0 d1 d2
      have HO := Lib.hid (fun (X : World) (hb : Below W.heap.size W X) => ownO_calls X (HOS.out.below (bl_next hw9 hb)) HSM.out)
      unfold objV at HO
      have HLK2 := Lib.hid (fun (X : World) (hb : Below W.heap.size W X) => HLK.out X (bl_next hw9 hb))
      have HYW := Lib.hid (HY.out.2.1.below hw9)
      have HYE := Lib.hid (And.intro HY.out.1 HY.out.2.2)
      have HBW := Lib.hid (bl_next HBr.out hw9)
      have hGE : V.heap.size ≤ W.heap.size := HBW.out.size
      have hjb : j ≤ 1000000 := Nat.le_trans hj HKL.out
      clear hw9 HY HBr HOS HLK
      have hB := Below.refl W.heap.size W
      have hB := hB.drew
      refine region_seqM (fun w' => Below W.heap.size W w') 9 [(0, 1), (1, 1), (2, 1), (3, 1), (4, 1), (5, 1), (6, 1), (7, 0), (8, 0), (9, 0), (10, 2)] (by kernel_rfl) (by kernel_rfl) (fun _ _ _ _ h => h) hB ?_
      try generalize World.drew _ = wS at hB ⊢
      refine sm_take (v := ?_) (a' := ?_) (some 19) rfl rfl (by rfl) ?_ ?_ ?_
      rotate_left; rotate_left
      · intro w' hS; go_simp; with_reducible rfl
      · simp only [Act.put, List.setIfInBounds_toArray, List.set_cons_zero, List.set_cons_succ]; rfl
      refine sm_take (v := ?_) (a' := ?_) (some 20) rfl rfl (by rfl) ?_ ?_ ?_
      rotate_left; rotate_left
      · intro w' hS; go_simp; with_reducible rfl
      · simp only [Act.put, List.setIfInBounds_toArray, List.set_cons_zero, List.set_cons_succ]; rfl
      refine sm_take (v := ?_) (a' := ?_) (some 21) rfl rfl (by rfl) ?_ ?_ ?_
      rotate_left; rotate_left
      · intro w' hS; go_simp; with_reducible rfl
      · simp only [Act.put, List.setIfInBounds_toArray, List.set_cons_zero, List.set_cons_succ]; rfl
      refine sm_take (v := ?_) (a' := ?_) (some 22) rfl rfl (by rfl) ?_ ?_ ?_
      rotate_left; rotate_left
      · intro w' hS; go_simp; with_reducible rfl
      · simp only [Act.put, List.setIfInBounds_toArray, List.set_cons_zero, List.set_cons_succ]; rfl
      refine sm_take (v := ?_) (a' := ?_) (some 23) rfl rfl (by rfl) ?_ ?_ ?_
      rotate_left; rotate_left
      · intro w' hS; have p0 := cb hS m0; have p1 := cb hS e0; have p2 := cb hS e1; have p3 := cb hS e2; have hl := HLK2.out _ hS; go_simp; with_reducible rfl
      · simp only [Act.put, List.setIfInBounds_toArray, List.set_cons_zero, List.set_cons_succ]; rfl
      refine sm_take (v := ?_) (a' := ?_) (some 24) rfl rfl (by rfl) ?_ ?_ ?_
      rotate_left; rotate_left
      · intro w' hS; have p0 := cb hS m0; have p1 := cb hS e0; have p2 := cb hS e1; have p3 := cb hS e2; have hl := HLK2.out _ hS; go_simp; with_reducible rfl
      · simp only [Act.put, List.setIfInBounds_toArray, List.set_cons_zero, List.set_cons_succ]; rfl
      refine sm_take (v := ?_) (a' := ?_) (some 25) rfl rfl (by rfl) ?_ ?_ ?_
      rotate_left; rotate_left
      · intro w' hS; have p0 := cb hS m0; have p1 := cb hS e0; have p2 := cb hS e1; have p3 := cb hS e2; have hl := HLK2.out _ hS; go_simp; with_reducible rfl
      · simp only [Act.put, List.setIfInBounds_toArray, List.set_cons_zero, List.set_cons_succ]; rfl
      refine sm_call (args := ?_) Try.func56 (by kernel_rfl) rfl (some 26) rfl rfl (by rfl) rfl rfl ?_ ?_
      rotate_left
      · simp only [List.map_toArray, List.map_cons, List.map_nil]; go_simp; rfl
      with_reducible refine ((HO.out _ hB)).mono ?_
      rintro e w' ⟨g, rfl, HF9, hb⟩
      have HF1 := Lib.hid (HF9.out.mono (b' := V.heap.size) (by have := hB.size; omega))
      refine ⟨_, rfl, .inr (bl_next (by repeat (first | with_reducible exact hB | refine Below.alloc ?_ (by have := hB.size; simp; omega) _ | refine bl_dN ?_ _ | refine Below.drew ?_ | refine Below.setCell ?_ (by have := hB.size; simp; omega) _)) hb), ?_⟩
      have hB := bl_next (by repeat (first | with_reducible exact hB | refine Below.alloc ?_ (by have := hB.size; simp; omega) _ | refine bl_dN ?_ _ | refine Below.drew ?_ | refine Below.setCell ?_ (by have := hB.size; simp; omega) _)) hb; clear hb
      simp only [Act.put, List.setIfInBounds_toArray, List.set_cons_zero, List.set_cons_succ]
      refine sm_op (some 27) rfl rfl (by rfl) ?_
      apply Exists.intro; apply Exists.intro; apply And.intro
      · go_simp; first | exact ⟨rfl, rfl⟩ | rfl
      apply Exists.intro; apply And.intro
      · simp only [Act.put, List.setIfInBounds_toArray, List.set_cons_zero, List.set_cons_succ]; rfl
      apply And.intro
      · exact .inr (by repeat (first | with_reducible exact hB | refine Below.alloc ?_ (by have := hB.size; simp; omega) _ | refine bl_dN ?_ _ | refine Below.drew ?_ | refine Below.setCell ?_ (by have := hB.size; simp; omega) _))
      refine sm_law rfl (by rfl) ?_
      refine app_obj_at (.tmp 19) (.tmp 27) rfl V.heap.size (.slice B j d) j ys o g _ _ rfl (World.ownsRow.alloc (rw_below (by have q := HYW.out.1; rw [HYE.out.1] at q; exact q) hB) _) _ 1 rfl (blk_new _ _) (by have := hB.size; simp; omega) (by omega) ?_
      intro g3 cap3 w3 hown3 hk3; have HZ := Lib.hid (ObjsF.snoc (p := (o, Value.slice (some ⟨g, 0, none⟩) o.charge.length o.charge.length)) ((HYW.out.below hB).below ((Below.refl _ _).alloc (Nat.le_refl _) _)) (HF1.out.below ((Below.refl _ _).alloc (Nat.le_refl _) _)) (by rw [List.length_append, HYE.out.1]; exact hown3) hk3); have HB3 := Lib.hid (show Below V.heap.size V w3 from ((bl_next HBW.out hB).alloc (by have := hB.size; omega) _).trans (hk3.below (by have := hB.size; simp; omega) (fun k q => (rw_type HYW.out.1 q).1)))
      refine ⟨.inl rfl, ?_⟩
      simp only [Act.put, List.setIfInBounds_toArray, List.set_cons_zero, List.set_cons_succ]
      refine sm_free (v := ?_) (a' := ?_) (some 3) rfl rfl (by rfl) ?_ ?_ ?_
      rotate_left; rotate_left
      · intro w'; go_simp; with_reducible rfl
      · simp only [Act.put, List.setIfInBounds_toArray, List.set_cons_zero, List.set_cons_succ]; rfl
      refine sm_done ?_
      go_wp2_with fail
      go_roundw
      case rel => exact ⟨j + 1, _, cap3, ys ++ [_], by simp, by omega, rfl, Lib.hid ⟨by simp [HYE.out.1], HZ.out, by rw [HT.out, ← HYE.out.2]; simp [oxs]⟩, HB3⟩
      case measure => simp [intOf]; omega
    · obtain rfl : j = ks.length := by omega
      go_wp2_with fail
      go_ret
      refine ⟨B, d, ys, ks, by rw [HY.out.1]; rfl, ?_, by rw [HY.out.2.2, List.take_length], HF.out.2.1, HF.out.2.2, bl_from HB2.out HBr.out⟩
      rw [HY.out.1]
      exact HY.out.2.1.mono HB2.out.size
end Go.Proofs.Ythhfcambdmdgfaa

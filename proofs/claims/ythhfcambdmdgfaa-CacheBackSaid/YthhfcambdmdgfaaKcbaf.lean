import Derived.Test.YthhfcambdmdgfaaKcbae
import Derived.RangeFuncNested
import Derived.RangeFuncBound
import Derived.RangeFuncCalls
import Derived.RangeFuncLeaves
import Derived.RangeFuncBox
import Derived.Shelf.Abstract
import Derived.Shelf.RegionOpen
import Derived.WalkKit
import Derived.Sort.MapsRangeIn
import Derived.OwnWalkIn
import Derived.TacticsInMore
import Derived.LoopNIn
import Derived.LoopIn
import Derived.Shelf.SlSortCmp.NoneTotal
import Derived.Test.YthhfcambdmdgfaaKcbab
import Derived.Test.YthhfcambdmdgfaaKcbac
import Derived.Test.YthhfcambdmdgfaaKcbad
namespace Go.Proofs.Ythhfcambdmdgfaa
open Go.RowKit Go.Shelf Go.Maps
set_option linter.unusedVariables false
set_option linter.unusedSimpArgs false
set_option linter.unusedSectionVars false
attribute [local go_sem] Oper.semAt_some
/-- What has come so far of a map's keys. -/
structure CollS {β : Type} (M : AM KS β) (f : β → Value) (left : Lit → Bool) (ss : List KS) : Prop where
  nod : ss.Nodup
  iff : ∀ x, x ∈ ss ↔ (hasA M x = true ∧ left (kL x) = false)
  has : ∀ z, left z = true → Maps.has (dmA kL f M) z = true
section
variable {β : Type} {M : AM KS β} {f : β → Value} {left : Lit → Bool} {ss : List KS}
theorem CollS.start (M : AM KS β) (f : β → Value) : CollS M f (Maps.has (dmA kL f M)) [] where
  nod := List.nodup_nil
  iff := fun x => ⟨(fun h => by cases h), (fun h => by obtain ⟨h1, h2⟩ := h; rw [has_dmA kL_lit, h1] at h2; cases h2)⟩
  has := fun z h => h
/-- An entry that has come is one of the map's. -/
theorem entry_key {kl : Lit} (h : Maps.has (dmA kL f M) kl = true) : ∃ q ∈ M, kl = kL q.1 := by
  have h : (M.map (fun p : KS × β => ((kL p.1, DataW.held (f p.2)) : Lit × DataW Value))).any (fun p => p.1.sameKey kl) = true := h
  rw [List.any_map, List.any_eq_true] at h
  obtain ⟨q, hq, hs⟩ := h
  exact ⟨q, hq, (Go.WideAt.sameKey_eq hs).symm⟩
theorem CollS.step (h : CollS M f left ss) {p : KS} (hp : hasA M p = true) (hl : left (kL p) = true) : CollS M f (fun z => left z && !z.sameKey (kL p)) (ss ++ [p]) where
  nod := by
    rw [List.nodup_append]
    refine ⟨h.nod, by simp, ?_⟩
    intro a ha b hb e
    obtain rfl : b = p := by simpa using hb
    have := ((h.iff a).1 ha).2
    rw [e, hl] at this; cases this
  iff := fun x => by
    rw [List.mem_append, List.mem_singleton, h.iff x]
    show _ ↔ _ ∧ (left (kL x) && !(kL x).sameKey (kL p)) = false
    rw [kL_lit.same]
    by_cases e : x = p
    · subst e; simp [hp, hl]
    · rw [decide_eq_false e]; simp [e]
  has := fun z hz => by
    simp only [Bool.and_eq_true] at hz
    exact h.has z hz.1
end
theorem key_of {key : Value} {k : KS} (h : keyOf Try.prog 24 key = some (kL k)) : key = keyV k.1 := kS_keyed.inj h (kL_key k)
def encKV (k : KS) : Array Value := #[.agg #[.string k.1.kind, .string k.1.space, .string k.1.name]]
def AllK {β : Type} (M : AM KS β) (ss : List KS) : Prop := ss.Nodup ∧ ∀ x, x ∈ ss ↔ hasA M x = true
set_option maxRecDepth 100000 in
set_option maxHeartbeats 4000000 in
theorem keysO_in {β : Type} (n : Nat) (hn : 1 ≤ n) (l Bm b nn : Nat) (M : AM KS β) (f : β → Value) (J Jx : List KS → World → Prop)
    (hY : ∀ pre x W, J pre W → pre.length < M.length → YieldAt Fence.wide (n - 1) Try.prog l (encKV x) W fun e W' =>
      (e = .returned (.bool true) ∧ J (pre ++ [x]) W' ∧ KeepsWalks W W') ∨ (e = .returned (.bool false) ∧ Jx (pre ++ [x]) W'))
    (W : World) (hJ : AbidesFrom W.heap.size J) (hm : W.cell? ⟨Bm, 0, none⟩ = some (.map (some b))) (hown : W.ownsMap Try.prog 24 RV b nn (dmA kL f M)) (h0 : J [] W) :
    CallsIn Fence.wide n Try.prog 102 #[.func (.yield l) #[] #[], .pointer (some ⟨Bm, 0, none⟩)] W fun e W' => (∃ v, e = .returned v) ∧
      ((∃ ss : List KS, AllK M ss ∧ J ss W') ∨ (∃ pre : List KS, True ∧ Jx pre W')) := by
  have hBmW := lt_of_cell hm
  refine callsIn_of_wp Try.func102 rfl trivial ?_ rfl
  simp only [Try.ntmps102, List.size_toArray, List.length_cons, List.length_nil, Nat.reduceAdd, Nat.reduceSub, Array.replicate_succ, Array.replicate_zero, List.push_toArray, List.append_toArray, List.nil_append, List.cons_append]
  gi_wp2_with (first | (gi_at_range; refine wpListIn_range_own _ rfl _ 92 rfl 24 _ kS_keyed Try.underlying92 RV b nn _ rfl hown ?_; intro w0 hrg0 hg0 hs0) | gi_in)
  try go_frame
  gi_loopw [3] (fun _ wr => ∃ (left : Lit → Bool) (cnt : Nat) (ss : List KS), wr.ranges Try.prog 24 RV b W.heap.size nn (dmA kL f M) left cnt ∧ ss.length + cnt ≤ M.length ∧ CollS M f left ss ∧ J ss wr)
    (fun _ wr => wr.rangeLeft b W.heap.size)
  case atStart => exact ⟨_, _, [], hrg0, by rw [size_dmA kL_lit]; simp, CollS.start M f, hJ [] W w0 none h0 hg0 (fun r e => by cases e)⟩
  case round =>
    obtain ⟨left, cnt, ss, hrg, hcs, hC, hJs⟩ := hrel
    gi_wp2_with (first | (gi_at_next; refine wpListIn_next_ranges _ rfl _ rfl 24 kS_keyed RV (fun x : Value => x) (fun x : Value => x) (fun key kl _ => ⟨key, rfl⟩) (fun v y _ => ⟨v, rfl⟩) b W.heap.size nn _ _ _ rfl hrg ?_ ?_) | gi_in)
    · intro hc0 hl0
      gi_wp2
      go_end0
      exact ⟨⟨_, rfl⟩, .inl ⟨ss, ⟨hC.nod, fun x => by rw [hC.iff x, hl0]; simp⟩, hJs⟩⟩
    · intro x c kl yd yp w2 cnt2 hkey hlk hv hat hrg2 hlt hg2 hs2 hen
      obtain ⟨q, hq, rfl⟩ := entry_key (hC.has _ hlk)
      have hhas : hasA M q.1 = true := by unfold hasA; rw [List.any_eq_true]; exact ⟨q, hq, by simp⟩
      generalize q.1 = k at hkey hlk hhas hat hrg2 hen
      obtain rfl := key_of hkey
      have hJ2 : J ss w2 := hJ ss wr w2 (some W.heap.size) hJs hg2 (fun r e => by cases e; exact ⟨Nat.le_refl _, hrg.iter_walk⟩)
      have HC2 := Lib.hid (hC.step hhas hlk)
      have HLT := Lib.hid hlt; have HLE := Lib.hid hrg.left_eq; have HLN := Lib.hid (show ss.length < M.length by omega); have HLN2 := Lib.hid (show ss.length + 1 + cnt2 ≤ M.length by omega)
      have HRG2 := Lib.hid hrg2; have HJ2 := Lib.hid hJ2
      unfold keyV at hen
      clear hs2 hC hcs hlt hrg hkey hat hv hhas hJs hJ2 hrg2 hq hlk hg2
      gi_wp2_with fail
      have hJV : J ss (w2.alloc (.cells #[.string k.1.kind, .string k.1.space, .string k.1.name] 24)) := hJ ss w2 _ none HJ2.out (World.grownBy_alloc w2 _ none) (fun r e => by cases e)
      have hrV := HRG2.out.kept (World.grownBy_alloc w2 (.cells #[.string k.1.kind, .string k.1.space, .string k.1.name] 24) none) (by simp) (by simp)
      obtain ⟨V, hV⟩ : ∃ V, w2.alloc (.cells #[.string k.1.kind, .string k.1.space, .string k.1.name] 24) = V := ⟨_, rfl⟩
      have d0 : V.cell? ⟨w2.heap.size, 0, none⟩ = some (.string k.1.kind) := by rw [← hV]; exact blk_cell (blk_new w2 _) 0
      have d1 : V.cell? ⟨w2.heap.size, 1, none⟩ = some (.string k.1.space) := by rw [← hV]; exact blk_cell (blk_new w2 _) 1
      have d2 : V.cell? ⟨w2.heap.size, 2, none⟩ = some (.string k.1.name) := by rw [← hV]; exact blk_cell (blk_new w2 _) 2
      rw [hV] at hJV hrV ⊢
      have HRV := Lib.hid hrV
      clear hV hen hrV
      obtain ⟨fn, tmps, assign, body, hy, hR⟩ := hY ss k V hJV HLN.out
      unfold encKV at hy
      gi_wp2
      rw [hy]
      gi_wp2
      refine hR.mono ?_
      rintro e W3 (⟨rfl, hJ3, hk3⟩ | ⟨rfl, hJx3⟩)
      · gi_wp2
        have hrg3 := HRV.out.of_walks hk3
        go_roundw
        case rel => exact ⟨_, cnt2, ss ++ [k], hrg3, by have := HLN2.out; simp; omega, HC2.out, hJ3⟩
        case measure => rw [hrg3.left_eq, HLE.out]; exact HLT.out
      · gi_wp2
        refine bodyPost_ret (results_none rfl _ _ _) rfl ?_
        exact ⟨⟨_, rfl⟩, .inr ⟨ss ++ [k], trivial, hJx3⟩⟩
theorem keysO_stops {β : Type} (n : Nat) (hn : 1 ≤ n) (Bm b nn : Nat) (M : AM KS β) (f : β → Value) (w : World) (hm : w.cell? ⟨Bm, 0, none⟩ = some (.map (some b))) (hown : w.ownsMap Try.prog 24 RV b nn (dmA kL f M)) :
    SeqStopsK Fence.wide n Try.prog 102 #[.pointer (some ⟨Bm, 0, none⟩)] encKV KeepsWalks (AllK M) (fun _ => True) M.length w :=
  fun l J Jx W hW hJ _ hY h0 => keysO_in n hn l Bm b nn M f J Jx hY W hJ (cb hW hm) (mv_below hown hW) h0
theorem keysO_calls (w : World) (m : Option Nat) : Calls Try.prog 77 #[.map m] w fun e w' => e = .returned (.func (.func 102) #[] #[.pointer (some ⟨w.heap.size, 0, none⟩)]) ∧ w'.cell? ⟨w.heap.size, 0, none⟩ = some (.map m) ∧ Below w.heap.size w w' := by
  go_enter Try.func77, Try.ntmps77
  go_wp2
  go_ret
  exact ⟨rfl, blk_cell (blk_new w _) 0, (Below.refl _ _).alloc (Nat.le_refl _) _⟩
set_option maxRecDepth 100000 in
set_option maxHeartbeats 4000000 in
theorem keysG_in {β : Type} (n : Nat) (hn : 1 ≤ n) (l Bm b nn : Nat) (M : AM KS β) (f : β → Value) (J Jx : List KS → World → Prop)
    (hY : ∀ pre x W, J pre W → pre.length < M.length → YieldAt Fence.wide (n - 1) Try.prog l (encKV x) W fun e W' =>
      (e = .returned (.bool true) ∧ J (pre ++ [x]) W' ∧ KeepsWalks W W') ∨ (e = .returned (.bool false) ∧ Jx (pre ++ [x]) W'))
    (W : World) (hJ : AbidesFrom W.heap.size J) (hm : W.cell? ⟨Bm, 0, none⟩ = some (.map (some b))) (hown : W.ownsMap Try.prog 24 RV b nn (dmA kL f M)) (h0 : J [] W) :
    CallsIn Fence.wide n Try.prog 103 #[.func (.yield l) #[] #[], .pointer (some ⟨Bm, 0, none⟩)] W fun e W' => (∃ v, e = .returned v) ∧
      ((∃ ss : List KS, AllK M ss ∧ J ss W') ∨ (∃ pre : List KS, True ∧ Jx pre W')) := by
  have hBmW := lt_of_cell hm
  refine callsIn_of_wp Try.func103 rfl trivial ?_ rfl
  simp only [Try.ntmps103, List.size_toArray, List.length_cons, List.length_nil, Nat.reduceAdd, Nat.reduceSub, Array.replicate_succ, Array.replicate_zero, List.push_toArray, List.append_toArray, List.nil_append, List.cons_append]
  gi_wp2_with (first | (gi_at_range; refine wpListIn_range_own _ rfl _ 96 rfl 24 _ kS_keyed Try.underlying96 RV b nn _ rfl hown ?_; intro w0 hrg0 hg0 hs0) | gi_in)
  try go_frame
  gi_loopw [3] (fun _ wr => ∃ (left : Lit → Bool) (cnt : Nat) (ss : List KS), wr.ranges Try.prog 24 RV b W.heap.size nn (dmA kL f M) left cnt ∧ ss.length + cnt ≤ M.length ∧ CollS M f left ss ∧ J ss wr)
    (fun _ wr => wr.rangeLeft b W.heap.size)
  case atStart => exact ⟨_, _, [], hrg0, by rw [size_dmA kL_lit]; simp, CollS.start M f, hJ [] W w0 none h0 hg0 (fun r e => by cases e)⟩
  case round =>
    obtain ⟨left, cnt, ss, hrg, hcs, hC, hJs⟩ := hrel
    gi_wp2_with (first | (gi_at_next; refine wpListIn_next_ranges _ rfl _ rfl 24 kS_keyed RV (fun x : Value => x) (fun x : Value => x) (fun key kl _ => ⟨key, rfl⟩) (fun v y _ => ⟨v, rfl⟩) b W.heap.size nn _ _ _ rfl hrg ?_ ?_) | gi_in)
    · intro hc0 hl0
      gi_wp2
      go_end0
      exact ⟨⟨_, rfl⟩, .inl ⟨ss, ⟨hC.nod, fun x => by rw [hC.iff x, hl0]; simp⟩, hJs⟩⟩
    · intro x c kl yd yp w2 cnt2 hkey hlk hv hat hrg2 hlt hg2 hs2 hen
      obtain ⟨q, hq, rfl⟩ := entry_key (hC.has _ hlk)
      have hhas : hasA M q.1 = true := by unfold hasA; rw [List.any_eq_true]; exact ⟨q, hq, by simp⟩
      generalize q.1 = k at hkey hlk hhas hat hrg2 hen
      obtain rfl := key_of hkey
      have hJ2 : J ss w2 := hJ ss wr w2 (some W.heap.size) hJs hg2 (fun r e => by cases e; exact ⟨Nat.le_refl _, hrg.iter_walk⟩)
      have HC2 := Lib.hid (hC.step hhas hlk)
      have HLT := Lib.hid hlt; have HLE := Lib.hid hrg.left_eq; have HLN := Lib.hid (show ss.length < M.length by omega); have HLN2 := Lib.hid (show ss.length + 1 + cnt2 ≤ M.length by omega)
      have HRG2 := Lib.hid hrg2; have HJ2 := Lib.hid hJ2
      unfold keyV at hen
      clear hs2 hC hcs hlt hrg hkey hat hv hhas hJs hJ2 hrg2 hq hlk hg2
      gi_wp2_with fail
      have hJV : J ss (w2.alloc (.cells #[.string k.1.kind, .string k.1.space, .string k.1.name] 24)) := hJ ss w2 _ none HJ2.out (World.grownBy_alloc w2 _ none) (fun r e => by cases e)
      have hrV := HRG2.out.kept (World.grownBy_alloc w2 (.cells #[.string k.1.kind, .string k.1.space, .string k.1.name] 24) none) (by simp) (by simp)
      obtain ⟨V, hV⟩ : ∃ V, w2.alloc (.cells #[.string k.1.kind, .string k.1.space, .string k.1.name] 24) = V := ⟨_, rfl⟩
      have d0 : V.cell? ⟨w2.heap.size, 0, none⟩ = some (.string k.1.kind) := by rw [← hV]; exact blk_cell (blk_new w2 _) 0
      have d1 : V.cell? ⟨w2.heap.size, 1, none⟩ = some (.string k.1.space) := by rw [← hV]; exact blk_cell (blk_new w2 _) 1
      have d2 : V.cell? ⟨w2.heap.size, 2, none⟩ = some (.string k.1.name) := by rw [← hV]; exact blk_cell (blk_new w2 _) 2
      rw [hV] at hJV hrV ⊢
      have HRV := Lib.hid hrV
      clear hV hen hrV
      obtain ⟨fn, tmps, assign, body, hy, hR⟩ := hY ss k V hJV HLN.out
      unfold encKV at hy
      gi_wp2
      rw [hy]
      gi_wp2
      refine hR.mono ?_
      rintro e W3 (⟨rfl, hJ3, hk3⟩ | ⟨rfl, hJx3⟩)
      · gi_wp2
        have hrg3 := HRV.out.of_walks hk3
        go_roundw
        case rel => exact ⟨_, cnt2, ss ++ [k], hrg3, by have := HLN2.out; simp; omega, HC2.out, hJ3⟩
        case measure => rw [hrg3.left_eq, HLE.out]; exact HLT.out
      · gi_wp2
        refine bodyPost_ret (results_none rfl _ _ _) rfl ?_
        exact ⟨⟨_, rfl⟩, .inr ⟨ss ++ [k], trivial, hJx3⟩⟩
theorem keysG_stops {β : Type} (n : Nat) (hn : 1 ≤ n) (Bm b nn : Nat) (M : AM KS β) (f : β → Value) (w : World) (hm : w.cell? ⟨Bm, 0, none⟩ = some (.map (some b))) (hown : w.ownsMap Try.prog 24 RV b nn (dmA kL f M)) :
    SeqStopsK Fence.wide n Try.prog 103 #[.pointer (some ⟨Bm, 0, none⟩)] encKV KeepsWalks (AllK M) (fun _ => True) M.length w :=
  fun l J Jx W hW hJ _ hY h0 => keysG_in n hn l Bm b nn M f J Jx hY W hJ (cb hW hm) (mv_below hown hW) h0
theorem keysG_calls (w : World) (m : Option Nat) : Calls Try.prog 79 #[.map m] w fun e w' => e = .returned (.func (.func 103) #[] #[.pointer (some ⟨w.heap.size, 0, none⟩)]) ∧ w'.cell? ⟨w.heap.size, 0, none⟩ = some (.map m) ∧ Below w.heap.size w w' := by
  go_enter Try.func79, Try.ntmps79
  go_wp2
  go_ret
  exact ⟨rfl, blk_cell (blk_new w _) 0, (Below.refl _ _).alloc (Nat.le_refl _) _⟩
set_option maxRecDepth 100000 in
set_option maxHeartbeats 4000000 in
theorem keysN_in {β : Type} (n : Nat) (hn : 1 ≤ n) (l Bm b nn : Nat) (M : AM KS β) (f : β → Value) (J Jx : List KS → World → Prop)
    (hY : ∀ pre x W, J pre W → pre.length < M.length → YieldAt Fence.wide (n - 1) Try.prog l (encKV x) W fun e W' =>
      (e = .returned (.bool true) ∧ J (pre ++ [x]) W' ∧ KeepsWalks W W') ∨ (e = .returned (.bool false) ∧ Jx (pre ++ [x]) W'))
    (W : World) (hJ : AbidesFrom W.heap.size J) (hm : W.cell? ⟨Bm, 0, none⟩ = some (.map (some b))) (hown : W.ownsMap Try.prog 24 RV b nn (dmA kL f M)) (h0 : J [] W) :
    CallsIn Fence.wide n Try.prog 111 #[.func (.yield l) #[] #[], .pointer (some ⟨Bm, 0, none⟩)] W fun e W' => (∃ v, e = .returned v) ∧
      ((∃ ss : List KS, AllK M ss ∧ J ss W') ∨ (∃ pre : List KS, True ∧ Jx pre W')) := by
  have hBmW := lt_of_cell hm
  refine callsIn_of_wp Try.func111 rfl trivial ?_ rfl
  simp only [Try.ntmps111, List.size_toArray, List.length_cons, List.length_nil, Nat.reduceAdd, Nat.reduceSub, Array.replicate_succ, Array.replicate_zero, List.push_toArray, List.append_toArray, List.nil_append, List.cons_append]
  gi_wp2_with (first | (gi_at_range; refine wpListIn_range_own _ rfl _ 122 rfl 24 _ kS_keyed Try.underlying122 RV b nn _ rfl hown ?_; intro w0 hrg0 hg0 hs0) | gi_in)
  try go_frame
  gi_loopw [3] (fun _ wr => ∃ (left : Lit → Bool) (cnt : Nat) (ss : List KS), wr.ranges Try.prog 24 RV b W.heap.size nn (dmA kL f M) left cnt ∧ ss.length + cnt ≤ M.length ∧ CollS M f left ss ∧ J ss wr)
    (fun _ wr => wr.rangeLeft b W.heap.size)
  case atStart => exact ⟨_, _, [], hrg0, by rw [size_dmA kL_lit]; simp, CollS.start M f, hJ [] W w0 none h0 hg0 (fun r e => by cases e)⟩
  case round =>
    obtain ⟨left, cnt, ss, hrg, hcs, hC, hJs⟩ := hrel
    gi_wp2_with (first | (gi_at_next; refine wpListIn_next_ranges _ rfl _ rfl 24 kS_keyed RV (fun x : Value => x) (fun x : Value => x) (fun key kl _ => ⟨key, rfl⟩) (fun v y _ => ⟨v, rfl⟩) b W.heap.size nn _ _ _ rfl hrg ?_ ?_) | gi_in)
    · intro hc0 hl0
      gi_wp2
      go_end0
      exact ⟨⟨_, rfl⟩, .inl ⟨ss, ⟨hC.nod, fun x => by rw [hC.iff x, hl0]; simp⟩, hJs⟩⟩
    · intro x c kl yd yp w2 cnt2 hkey hlk hv hat hrg2 hlt hg2 hs2 hen
      obtain ⟨q, hq, rfl⟩ := entry_key (hC.has _ hlk)
      have hhas : hasA M q.1 = true := by unfold hasA; rw [List.any_eq_true]; exact ⟨q, hq, by simp⟩
      generalize q.1 = k at hkey hlk hhas hat hrg2 hen
      obtain rfl := key_of hkey
      have hJ2 : J ss w2 := hJ ss wr w2 (some W.heap.size) hJs hg2 (fun r e => by cases e; exact ⟨Nat.le_refl _, hrg.iter_walk⟩)
      have HC2 := Lib.hid (hC.step hhas hlk)
      have HLT := Lib.hid hlt; have HLE := Lib.hid hrg.left_eq; have HLN := Lib.hid (show ss.length < M.length by omega); have HLN2 := Lib.hid (show ss.length + 1 + cnt2 ≤ M.length by omega)
      have HRG2 := Lib.hid hrg2; have HJ2 := Lib.hid hJ2
      unfold keyV at hen
      clear hs2 hC hcs hlt hrg hkey hat hv hhas hJs hJ2 hrg2 hq hlk hg2
      gi_wp2_with fail
      have hJV : J ss (w2.alloc (.cells #[.string k.1.kind, .string k.1.space, .string k.1.name] 24)) := hJ ss w2 _ none HJ2.out (World.grownBy_alloc w2 _ none) (fun r e => by cases e)
      have hrV := HRG2.out.kept (World.grownBy_alloc w2 (.cells #[.string k.1.kind, .string k.1.space, .string k.1.name] 24) none) (by simp) (by simp)
      obtain ⟨V, hV⟩ : ∃ V, w2.alloc (.cells #[.string k.1.kind, .string k.1.space, .string k.1.name] 24) = V := ⟨_, rfl⟩
      have d0 : V.cell? ⟨w2.heap.size, 0, none⟩ = some (.string k.1.kind) := by rw [← hV]; exact blk_cell (blk_new w2 _) 0
      have d1 : V.cell? ⟨w2.heap.size, 1, none⟩ = some (.string k.1.space) := by rw [← hV]; exact blk_cell (blk_new w2 _) 1
      have d2 : V.cell? ⟨w2.heap.size, 2, none⟩ = some (.string k.1.name) := by rw [← hV]; exact blk_cell (blk_new w2 _) 2
      rw [hV] at hJV hrV ⊢
      have HRV := Lib.hid hrV
      clear hV hen hrV
      obtain ⟨fn, tmps, assign, body, hy, hR⟩ := hY ss k V hJV HLN.out
      unfold encKV at hy
      gi_wp2
      rw [hy]
      gi_wp2
      refine hR.mono ?_
      rintro e W3 (⟨rfl, hJ3, hk3⟩ | ⟨rfl, hJx3⟩)
      · gi_wp2
        have hrg3 := HRV.out.of_walks hk3
        go_roundw
        case rel => exact ⟨_, cnt2, ss ++ [k], hrg3, by have := HLN2.out; simp; omega, HC2.out, hJ3⟩
        case measure => rw [hrg3.left_eq, HLE.out]; exact HLT.out
      · gi_wp2
        refine bodyPost_ret (results_none rfl _ _ _) rfl ?_
        exact ⟨⟨_, rfl⟩, .inr ⟨ss ++ [k], trivial, hJx3⟩⟩
theorem keysN_stops {β : Type} (n : Nat) (hn : 1 ≤ n) (Bm b nn : Nat) (M : AM KS β) (f : β → Value) (w : World) (hm : w.cell? ⟨Bm, 0, none⟩ = some (.map (some b))) (hown : w.ownsMap Try.prog 24 RV b nn (dmA kL f M)) :
    SeqStopsK Fence.wide n Try.prog 111 #[.pointer (some ⟨Bm, 0, none⟩)] encKV KeepsWalks (AllK M) (fun _ => True) M.length w :=
  fun l J Jx W hW hJ _ hY h0 => keysN_in n hn l Bm b nn M f J Jx hY W hJ (cb hW hm) (mv_below hown hW) h0
theorem keysN_calls (w : World) (m : Option Nat) : Calls Try.prog 95 #[.map m] w fun e w' => e = .returned (.func (.func 111) #[] #[.pointer (some ⟨w.heap.size, 0, none⟩)]) ∧ w'.cell? ⟨w.heap.size, 0, none⟩ = some (.map m) ∧ Below w.heap.size w w' := by
  go_enter Try.func95, Try.ntmps95
  go_wp2
  go_ret
  exact ⟨rfl, blk_cell (blk_new w _) 0, (Below.refl _ _).alloc (Nat.le_refl _) _⟩
end Go.Proofs.Ythhfcambdmdgfaa
namespace Go.Proofs.Ythhfcambdmdgfaa
open Go.RowKit Go.Shelf Go.Maps
set_option linter.unusedVariables false
set_option linter.unusedSimpArgs false
set_option linter.unusedSectionVars false
attribute [local go_sem] Oper.semAt_some
def keyC (l : List KS) : List Value := l.flatMap encK
theorem keyC_app (l : List KS) (k : KS) : keyC (l ++ [k]) = keyC l ++ encK k := by simp [keyC]
theorem info_key : (Try.prog.info? 24).map (fun i => (i.zero, i.size, i.bytes)) = some (some (.agg #[.string ⟨#[]⟩, .string ⟨#[]⟩, .string ⟨#[]⟩]), 3, 48) := by kernel_rfl
set_option maxRecDepth 100000 in
set_option maxHeartbeats 8000000 in
theorem appendSeq_calls (w : World) {g : Nat} {lb : Array Value} {S Sp : List KS → Prop} {N : Nat} (hFg : Fence.wide.fn g) (eg : ∀ args w, (callFunc g args).run Try.prog w = .ok (.enter g args) w)
    (hseq : SeqStopsK Fence.wide 4 Try.prog g lb encKV KeepsWalks S Sp N w) (hN : N ≤ 1000000) :
    Calls Try.prog 113 #[.slice none 0 0, .func (.func g) #[] lb] w fun e w' => ∃ v ks, e = .returned v ∧ S ks ∧ w'.ownsRow w.heap.size 24 3 v ks.length (keyC ks) ∧ Below w.heap.size w w' := by
  obtain ⟨i0, hi, hz0, hz1, hz2⟩ := info_parts info_key
  refine (callsIn_wide (n := 6)).1 ?_
  refine callsIn_of_wp_marks Try.func113 rfl trivial ?_ rfl
  simp only [Try.ntmps113, List.size_toArray, List.length_cons, List.length_nil, Nat.reduceAdd, Nat.reduceSub, Array.replicate_succ, Array.replicate_zero, List.push_toArray, List.append_toArray, List.nil_append, List.cons_append]
  refine wpIn_wide.2 ?_
  go_wp2_with fail
  first | with_reducible refine name_wp ?_ | with_reducible refine name_calls ?_
  intro V hV
  have bO : Boxed V w.heap.size 75 (.slice none 0 0) := by rw [hV]; exact blk_new w _
  have hbV : Below w.heap.size w V := by rw [hV]; exact (Below.refl _ _).alloc (Nat.le_refl _) _
  have hzV : w.heap.size + 1 ≤ V.heap.size := by rw [hV]; simp
  clear hV
  refine (wpIn_wide (n := 5)).1 ?_
  refine wpIn_rangeFunc_ownH rfl (by decide) (gf := g) rfl hFg eg hseq walksK_t walksK_b hbV (fun _ => rfl)
    (fun pre U => (∃ v, Boxed U w.heap.size 75 v ∧ U.ownsRow w.heap.size 24 3 v pre.length (keyC pre) ∧ True) ∧ Below w.heap.size w U)
    (fun c pre U => False)
    ?hI ?hIx ?h0
    (fun x a' U => ∃ p, a' = { tmps := #[.slice none 0 0, .func (.func g) #[] lb, .pointer (some ⟨w.heap.size, 0, none⟩), undef, .slice none 0 0, .pointer (some ⟨p, 0, none⟩), .func (.func g) #[] lb, .agg #[.string x.1.kind, .string x.1.space, .string x.1.name], undef, undef, undef, undef, undef], defers := [] } ∧ U.cell? ⟨p, 0, none⟩ = some (.string x.1.kind) ∧ U.cell? ⟨p, 1, none⟩ = some (.string x.1.space) ∧ U.cell? ⟨p, 2, none⟩ = some (.string x.1.name))
    ?hAx ?assign ?body ?done ?stop
  case hI =>
    refine OwnFrom.and (Own.from (fun s A B row hs hg hr => holdsRow_own w.heap.size w.heap.size 75 24 3 (fun pre : List KS => pre.length) (fun pre => keyC pre) (fun _ _ => True) s A B row hs hg hr) _) (ownFrom_below (Nat.le_refl _) (by omega))
  case hIx =>
    intro c s A B row hs _ _
    exact hs.elim
  case h0 => exact ⟨⟨_, bO, World.ownsRow_nil _ _ _ _, trivial⟩, hbV⟩
  case hAx =>
    rintro x a' s A B row ⟨p, e, q0, q1, q2⟩ hg hr
    exact ⟨p, e, cell_kept q0 hg (fun r e => (hr r e).2), cell_kept q1 hg (fun r e => (hr r e).2), cell_kept q2 hg (fun r e => (hr r e).2)⟩
  case assign =>
    rintro l1 pre x U K ⟨⟨vo, hvo, hrow, -⟩, hbU⟩ hK
    unfold encKV
    gi_wp2_with fail
    refine hK _ _ ⟨by simp, fun k o _ hk _ => blk_old hk _⟩ (KeepsWalks.alloc _ _) ⟨⟨vo, hvo.alloc _, hrow.alloc _, trivial⟩, hbU.alloc hbU.size _⟩ ⟨U.heap.size, rfl, blk_cell (blk_new U _) 0, blk_cell (blk_new U _) 1, blk_cell (blk_new U _) 2⟩
  case body =>
    rintro l1 pre x a' U hl1 hrl ⟨⟨vo, hvo, hrow, -⟩, hbU⟩ ⟨p, rfl, q0, q1, q2⟩ hpl
    have hc := hvo.cell
    have HP := Lib.hid (show keyC (pre ++ [x]) = keyC pre ++ [.string x.1.kind, .string x.1.space, .string x.1.name] by rw [keyC_app]; rfl)
    clear hrl hl1
    gi_wp2_with (gi_at_builtin; refine wpListIn_append_own _ rfl _ _ 75 rfl w.heap.size 24 i0 (.agg #[.string ⟨#[]⟩, .string ⟨#[]⟩, .string ⟨#[]⟩]) 3 48 Try.underlying75 hi hz0 hz1 hz2 rfl (by decide) _ _ _ rfl (hrow.alloc _) ⟨U.heap.size, 0, none⟩ 1 1 [.string x.1.kind, .string x.1.space, .string x.1.name] rfl rfl (fun j y hj => by match j, hj with | 0, hj => simp at hj; subst hj; exact blk_cell (blk_new U _) 0 | 1, hj => simp at hj; subst hj; exact blk_cell (blk_new U _) 1 | 2, hj => simp at hj; subst hj; exact blk_cell (blk_new U _) 2) (by simp [Value.oneCell']) (by unfold maxLen; omega) (by omega) (by have := hbU.size; simp; omega) ?_; intro v' w1 hown' hgrow _; obtain ⟨g', cap', rfl⟩ := ownsRow_succ hown'; obtain ⟨hv1, hv2, hr2, hk2, hb2⟩ := hvo.appended (by decide) hrow hbU.size (by omega) hown' hgrow; have hc1 := hv1.cell; have hf1 := hv1.frozen)
    exact ⟨hk2.from _, hk2.walks, ⟨_, hv2, by rw [HP.out, List.length_append]; exact hr2, trivial⟩, hbU.trans hb2⟩
  case done =>
    rintro D xs U hDz hS ⟨⟨vo, hvo, hrow, -⟩, hbU⟩ hK
    have hc := hvo.cell
    go_wp2
    refine ⟨by simp, .inl ⟨_, _, rfl, run_takeDeferred hK, ?_⟩⟩
    refine ⟨_, results_tmp rfl _ _ _, vo, xs, rfl, hS, ?_, hbU.grown (grownBy_putObj' _ D (.deferred none)) hbU.size (fun k e => by cases e; omega)⟩
    exact ownsRow_putObj hrow _ hK rfl
  case stop =>
    rintro D c pre U hD hsp hf _
    exact hf.elim
theorem collect_calls (w : World) {g : Nat} {lb : Array Value} {S Sp : List KS → Prop} {N : Nat} (hFg : Fence.wide.fn g) (eg : ∀ args w, (callFunc g args).run Try.prog w = .ok (.enter g args) w)
    (hseq : SeqStopsK Fence.wide 4 Try.prog g lb encKV KeepsWalks S Sp N w) (hN : N ≤ 1000000) :
    Calls Try.prog 100 #[.func (.func g) #[] lb] w fun e w' => ∃ v ks, e = .returned v ∧ S ks ∧ w'.ownsRow w.heap.size 24 3 v ks.length (keyC ks) ∧ Below w.heap.size w w' := by
  have HA := Lib.hid (appendSeq_calls w hFg eg hseq hN)
  clear hseq eg hFg
  go_enter Try.func100, Try.ntmps100
  go_wp2_with (go_at_call 113; refine HA.out.mono ?_; rintro e w1 ⟨v, ks, rfl, hS, hr, hb⟩; have HF := Lib.hid (And.intro hS (And.intro hr hb)); clear hS hr hb)
  go_ret
  exact ⟨v, ks, rfl, HF.out.1, HF.out.2.1, HF.out.2.2⟩
instance : Inhabited KS := ⟨⟨⟨⟨#[]⟩, ⟨#[]⟩, ⟨#[]⟩⟩, by decide, by decide, by decide⟩⟩
theorem ltOf_cf (a b : KS) : ltOf cfK a b = ltT a b := by
  show decide (cfK a b < 0) = ltT a b
  unfold cfK
  cases h : ltT a b with
  | true => simp
  | false => cases ltT b a <;> simp
theorem ltT_B (a b : KS) : ltT a b = ltB (kT a.1) (kT b.1) := rfl
theorem swo_cf : Go.Sort.SWO (ltOf cfK) where
  irrefl x := by rw [ltOf_cf, ltT_B]; exact ltB_irrefl _
  trans x y z h1 h2 := by rw [ltOf_cf, ltT_B] at *; exact ltB_trans h1 h2
  ntrans x y z h1 h2 := by
    rw [ltOf_cf, ltT_B] at *
    cases h : ltB (kT x.1) (kT z.1) with
    | false => rfl
    | true =>
      by_cases e : kT x.1 = kT y.1
      · rw [e, h2] at h; cases h
      · rcases ltB_total e with q | q
        · rw [h1] at q; cases q
        · have := ltB_trans q h
          rw [h2] at this; cases this
theorem keyC_len (l : List KS) : (keyC l).length = l.length * 3 := by
  induction l with
  | nil => rfl
  | cons a r ih => rw [show keyC (a :: r) = encK a ++ keyC r from rfl, List.length_append, ih, List.length_cons]; show 3 + _ = _; omega
theorem keyC_flat (ks : List KS) : (Go.Sort.flatK encK 3 ks.toArray).toList = keyC ks := by
  apply List.ext_getElem
  · rw [keyC_len]; simp
  · intro j h1 h2
    have hj : j < ks.length * 3 := by rw [← keyC_len]; exact h2
    have hi : j / 3 < ks.length := by omega
    have e1 := flat_at encK 3 (fun _ => rfl) ks (j / 3) hi (j % 3) (by omega)
    rw [show j / 3 * 3 + j % 3 = j by omega] at e1
    have e2 : (keyC ks)[j]? = (encK (ks[j / 3]'hi))[j % 3]? := e1
    rw [List.getElem?_eq_getElem h2] at e2
    have e3 := Go.Sort.get_flatK encK 3 ks.toArray j (by simpa using hj)
    have h3 : j < (Go.Sort.flatK encK 3 ks.toArray).size := by simpa using hj
    rw [getElem!_pos _ j h3] at e3
    rw [Array.getElem_toList, e3]
    have e4 : ks.toArray[j / 3]! = ks[j / 3]'hi := by rw [getElem!_pos _ _ (by simpa using hi)]; simp
    rw [e4]
    have h4 : j % 3 < (encK (ks[j / 3]'hi)).length := by show j % 3 < 3; omega
    rw [List.getElem?_eq_getElem h4] at e2
    rw [getElem!_pos (encK (ks[j / 3]'hi)) (j % 3) h4]
    exact (Option.some.inj e2).symm
theorem holdsK_row {w : World} {base g cap : Nat} {ks : List KS} (hr : w.ownsRow base 24 3 (.slice (some ⟨g, 0, none⟩) ks.length cap) ks.length (keyC ks)) : Go.Sort.HoldsK encK 3 w g 0 ks.toArray := by
  obtain ⟨_, _, hc, hf⟩ := rw_cells hr
  intro j hj
  have hj' : j < ks.length * 3 := by simpa using hj
  rw [Nat.zero_add]
  refine ⟨?_, hf j⟩
  rw [hc j hj', ← keyC_flat]
  have h3 : j < (Go.Sort.flatK encK 3 ks.toArray).size := hj
  rw [getElem!_pos _ j h3]
  show some (List.getD _ j undef) = some _
  rw [List.getD_eq_getElem?_getD, List.getElem?_eq_getElem (by simpa using h3)]
  simp
theorem heap_put {w : World} {g n : Nat} {os : Array Obj} {cur : Array Value} {e : TypeId} (F : Array Value) (hb : w.heap[g]? = some (.cells cur e (0, 0))) :
    (Go.Sort.grow (Go.Sort.putRow id (Go.Sort.ahead w n) g 0 F) os).heap[g]? = some (.cells (Go.Sort.putCells id 0 F cur) e (0, 0)) := by
  obtain ⟨hlt, hk⟩ := Array.getElem?_eq_some_iff.1 hb
  show ((w.heap.modify g (Go.Sort.onCells _)) ++ os)[g]? = _
  rw [Array.getElem?_append_left (by rw [Array.size_modify]; exact hlt), Array.getElem?_eq_getElem (by rw [Array.size_modify]; exact hlt), Array.getElem_modify_self, hk]
  rfl
theorem kept_put {w : World} {g n : Nat} {os : Array Obj} (F : Array Value) : Kept (fun k => k = g) w (Go.Sort.grow (Go.Sort.putRow id (Go.Sort.ahead w n) g 0 F) os) := by
  refine ⟨rfl, rfl, rfl, ?_, fun k hk hx => ?_⟩
  · show w.heap.size ≤ ((w.heap.modify g (Go.Sort.onCells _)) ++ os).size
    rw [Array.size_append, Array.size_modify]; omega
  · show ((w.heap.modify g (Go.Sort.onCells _)) ++ os)[k]? = _
    rw [Array.getElem?_append_left (by rw [Array.size_modify]; exact hk), Array.getElem?_eq_getElem (by rw [Array.size_modify]; exact hk), Array.getElem_modify_of_ne (fun e => hx e.symm), Array.getElem?_eq_getElem hk]
theorem take_put (cur F : Array Value) (h : F.size ≤ cur.size) : (Go.Sort.putCells id 0 F cur).toList.take F.size = F.toList := by
  apply List.ext_getElem
  · simp [Go.Sort.putCells]; omega
  · intro j h1 h2
    have hj : j < F.size := by simpa using h2
    simp [Go.Sort.putCells, hj]
theorem row_put {w : World} {base g cap n : Nat} {os : Array Obj} {ks ks' : List KS} (hl : ks'.length = ks.length) (hr : w.ownsRow base 24 3 (.slice (some ⟨g, 0, none⟩) ks.length cap) ks.length (keyC ks)) :
    (Go.Sort.grow (Go.Sort.putRow id (Go.Sort.ahead w n) g 0 (Go.Sort.flatK encK 3 ks'.toArray)) os).ownsRow base 24 3 (.slice (some ⟨g, 0, none⟩) ks.length cap) ks.length (keyC ks') := by
  rcases hr.2 with ⟨q, _⟩ | ⟨g', cap', cur, q, h1, h2, h3, h4, h5, h6⟩
  · cases q
  · cases q
    refine ⟨by rw [keyC_len, hl], .inr ⟨g, cap, _, rfl, h1, heap_put _ h2, h3, h4, ?_, ?_⟩⟩
    · rw [← h5]; simp [Go.Sort.putCells]
    · have hs : (Go.Sort.flatK encK 3 ks'.toArray).size = ks.length * 3 := by simp [hl]
      rw [← hs, take_put _ _ (by rw [hs, h5]; exact Nat.mul_le_mul_right 3 h3), keyC_flat]
set_option maxHeartbeats 4000000 in
theorem sortK_calls (w : World) {base : Nat} {v : Value} {ks : List KS} (hr : w.ownsRow base 24 3 v ks.length (keyC ks)) (hb : base ≤ w.heap.size) (hl : ks.length ≤ 1000000) :
    Calls Try.prog 101 #[v, .func (.func 78) #[] #[]] w fun e w' => e = .returned (.tuple #[]) ∧
      ∃ ks' : List KS, ks'.Perm ks ∧ ks'.Pairwise (fun a b => ltT b a = false) ∧ w'.ownsRow base 24 3 v ks'.length (keyC ks') ∧ Below base w w' := by
  cases hk : ks with
  | nil =>
    subst hk
    obtain ⟨A, c, rfl⟩ := rw_form hr
    refine (AnyF.slices_SortFunc_none Try.sortKey A c _ w).mono ?_
    rintro e w' ⟨rfl, rfl⟩
    exact ⟨rfl, [], List.Perm.refl _, List.Pairwise.nil, hr, Below.refl _ _⟩
  | cons a r =>
    rw [← hk]
    obtain ⟨g, cap, rfl⟩ := rw_pos hr (by rw [hk]; simp)
    have hlt := (rw_cells hr).2.1
    have hge := (rw_cells hr).1
    have hcon := AnyQ.slices_SortFunc Try.sortKey 3 (fun w => by kernel_rfl) (fun w => by kernel_rfl) encK (fun _ => rfl) (fun x v hv => by simp [encK] at hv; rcases hv with rfl | rfl | rfl <;> rfl) cfK swo_cf 78 #[] g 0 cap ks.toArray w
      (enters_of Try.func78 (by kernel_rfl) rfl) (fun m os dk hs x y => order_gr x y _) (holdsK_row hr) hlt (by simp; omega)
    have hcon2 : Calls Try.prog 101 #[.slice (some ⟨g, 0, none⟩) ks.length cap, .func (.func 78) #[] #[]] w _ := hcon
    refine hcon2.mono ?_
    rintro e w' ⟨rfl, d', n, os, ⟨hp1, hp2, hp3⟩, hs, rfl⟩
    have hsz : d'.size = ks.length := by rw [hp1]; simp
    have hperm : d'.toList.Perm ks := by
      have h := hp3
      rw [show ks.toArray.size = ks.length by simp] at h
      have e1 : (d'.extract 0 ks.length).toList = d'.toList := by rw [← hsz]; simp
      have e2 : (ks.toArray.extract 0 ks.length).toList = ks := by simp
      rw [e1, e2] at h
      exact h
    refine ⟨rfl, d'.toList, hperm, ?_, ?_, ?_⟩
    · rw [List.pairwise_iff_getElem]
      intro i j hi hj hij
      have hi' : i < d'.size := by simpa using hi
      have hj' : j < d'.size := by simpa using hj
      have := hs i j (Nat.zero_le _) hij (by rw [hp1] at hj'; exact hj')
      rw [ltOf_cf, getElem!_pos d' j hj', getElem!_pos d' i hi'] at this
      simpa using this
    · have h := row_put (w := w) (n := n) (os := os) (ks' := d'.toList) hperm.length_eq hr
      rw [hperm.length_eq]
      simp only [Array.toArray_toList] at h
      exact h
    · exact (kept_put (w := w) (g := g) (n := n) (os := os) (Go.Sort.flatK encK 3 d')).below hb (fun k e => by subst e; exact hge)
theorem nodup_le {α : Type} [DecidableEq α] : ∀ {l m : List α}, l.Nodup → (∀ x ∈ l, x ∈ m) → l.length ≤ m.length
  | [], _, _, _ => Nat.zero_le _
  | a :: r, m, hn, h => by
    rw [List.nodup_cons] at hn
    have ih := nodup_le (l := r) (m := m.erase a) hn.2 (fun x hx => (List.mem_erase_of_ne (fun e => hn.1 (by rw [← e]; exact hx))).2 (h x (List.mem_cons_of_mem _ hx)))
    have ha := h a List.mem_cons_self
    rw [List.length_erase_of_mem ha] at ih
    have := List.length_pos_of_mem ha
    rw [List.length_cons]; omega
theorem allK_len {β : Type} {M : AM KS β} {ks : List KS} (h : AllK M ks) : ks.length ≤ M.length := by
  have := nodup_le (m := M.map (·.1)) h.1 (fun x hx => by
    have := (h.2 x).1 hx
    unfold hasA at this
    rw [List.any_eq_true] at this
    obtain ⟨q, hq, e⟩ := this
    exact List.mem_map.2 ⟨q, hq, by simpa using e⟩)
  rwa [List.length_map] at this
/-- What slices.SortedFunc of a map's keys yields. -/
def SrtK {β : Type} (w : World) (M : AM KS β) (e : Ending) (w' : World) : Prop := ∃ A c ks, e = .returned (.slice A ks.length c) ∧ w'.ownsRow w.heap.size 24 3 (.slice A ks.length c) ks.length (keyC ks) ∧ AllK M ks ∧ ks.Pairwise (fun a b => ltT b a = false) ∧ Below w.heap.size w w'
set_option maxHeartbeats 4000000 in
theorem sortedFunc_calls (w : World) {β : Type} {g : Nat} {lb : Array Value} {M : AM KS β} (hFg : Fence.wide.fn g) (eg : ∀ args w, (callFunc g args).run Try.prog w = .ok (.enter g args) w)
    (hseq : SeqStopsK Fence.wide 4 Try.prog g lb encKV KeepsWalks (AllK M) (fun _ => True) M.length w) (hM : M.length ≤ 1000000) :
    Calls Try.prog 76 #[.func (.func g) #[] lb, .func (.func 78) #[] #[]] w (SrtK w M) := by
  have HA := Lib.hid (collect_calls w hFg eg hseq hM)
  clear hseq eg hFg
  go_enter Try.func76, Try.ntmps76
  go_upto_region 2 with (go_at_call 100; refine HA.out.mono ?_; rintro e w1 ⟨v, ks, rfl, hS, hr, hb⟩; have HF := Lib.hid (And.intro hS (And.intro hr hb)); clear hS hr hb)
  have HL := Lib.hid (show ks.length ≤ 1000000 from Nat.le_trans (allK_len HF.out.1) hM)
  have HC := Lib.hid (sortK_calls w1 HF.out.2.1 HF.out.2.2.size HL.out)
  go_wp2_with (go_at_call 101; refine HC.out.mono ?_; rintro e w2 ⟨rfl, ks', hp, hs, hr, hb⟩; have HG := Lib.hid (And.intro hp (And.intro hs (And.intro hr hb))); clear hp hs hr hb)
  go_ret
  obtain ⟨hp, hs, hr, hb⟩ := HG.out
  obtain ⟨A, c, rfl⟩ := rw_form hr
  exact ⟨A, c, ks', rfl, hr, ⟨hp.nodup_iff.2 HF.out.1.1, fun x => by rw [hp.mem_iff]; exact HF.out.1.2 x⟩, hs, HF.out.2.2.trans hb⟩
end Go.Proofs.Ythhfcambdmdgfaa
namespace Go.Proofs.Ythhfcambdmdgfaa
theorem getElem_data (s : ByteArray) (i : Nat) (h : i < s.size) : s.data.toList[i]? = some s[i] := by
  rw [ByteArray.getElem_eq_getElem_data]; simp
theorem findAt_append (a r : ByteArray) (c : UInt8) (ha : ∀ x ∈ a.data.toList, x ≠ c) : findAt (a ++ ⟨#[c]⟩ ++ r) c 0 = a.size := by
  have hz : (a ++ ⟨#[c]⟩ ++ r).size = a.size + 1 + r.size := by simp [ByteArray.size_append]; rfl
  have hd : (a ++ ⟨#[c]⟩ ++ r).data.toList = a.data.toList ++ c :: r.data.toList := by simp
  refine findAt_unique _ c a.size (by omega) ?_ (fun j hj => ?_)
  · have := getElem_data (a ++ ⟨#[c]⟩ ++ r) a.size (by omega)
    rw [hd, List.getElem?_append_right (by simp)] at this
    simpa using this.symm
  · have := getElem_data (a ++ ⟨#[c]⟩ ++ r) j (by omega)
    rw [hd, List.getElem?_append_left (by simpa using hj)] at this
    exact ha _ (List.mem_of_getElem? this)
theorem ba_ext {a b : ByteArray} (h : a.data.toList = b.data.toList) : a = b := ByteArray.ext (Array.toList_inj.1 h)
theorem cutA_append (a r : ByteArray) (c : UInt8) (ha : ∀ x ∈ a.data.toList, x ≠ c) : cutA (a ++ ⟨#[c]⟩ ++ r) c = a := by
  rw [cutA, findAt_append a r c ha]
  refine ba_ext ?_
  simp [ByteArray.data_extract]
theorem cutB_append (a r : ByteArray) (c : UInt8) (ha : ∀ x ∈ a.data.toList, x ≠ c) : cutB (a ++ ⟨#[c]⟩ ++ r) c = r := by
  rw [cutB, findAt_append a r c ha]
  refine ba_ext ?_
  simp [ByteArray.data_extract, ByteArray.size_append, List.drop_append]
  rw [List.drop_of_length_le (by simp), show ({ data := #[c] } : ByteArray).size = 1 from rfl, show a.size + 1 + r.size - (a.size + 1) = r.size from by omega, List.take_of_length_le (l := r.data.toList) (by simp)]
  simp
theorem sign_ne {x : UInt8} (h : signB (x.toNat : Int) = true) : x ≠ 47 := by rintro rfl; simp [signB] at h
theorem right_ne {s : ByteArray} (h : rightB s = true) : ∀ x ∈ s.data.toList, x ≠ 47 := by
  intro x hx
  simp only [rightB, Bool.and_eq_true, lettersTo] at h
  rw [List.take_of_length_le (by simp)] at h
  exact sign_ne (List.all_eq_true.1 h.1.1.1.1 x hx)
theorem keyText_eq (k s n : ByteArray) : keyText k s n = s ++ ⟨#[47]⟩ ++ (k ++ ⟨#[47]⟩ ++ n) := by simp [keyText, ByteArray.append_assoc]
def pS (s : ByteArray) : ByteArray := cutA s 47
def pK (s : ByteArray) : ByteArray := cutA (cutB s 47) 47
def pN (s : ByteArray) : ByteArray := cutB (cutB s 47) 47
theorem parse_text {k s n : ByteArray} (h : keyB k s n = true) : pK (keyText k s n) = k ∧ pS (keyText k s n) = s ∧ pN (keyText k s n) = n := by
  simp only [keyB, Bool.and_eq_true] at h
  have h1 := right_ne h.1.1; have h2 := right_ne h.1.2
  refine ⟨?_, ?_, ?_⟩
  · rw [pK, keyText_eq, cutB_append _ _ _ h1, cutA_append _ _ _ h2]
  · rw [pS, keyText_eq, cutA_append _ _ _ h1]
  · rw [pN, keyText_eq, cutB_append _ _ _ h1, cutB_append _ _ _ h2]
theorem keyText_inj {k s n k' s' n' : ByteArray} (h : keyB k s n = true) (h' : keyB k' s' n' = true) (e : keyText k s n = keyText k' s' n') : k = k' ∧ s = s' ∧ n = n' := by
  obtain ⟨a1, a2, a3⟩ := parse_text h
  obtain ⟨b1, b2, b3⟩ := parse_text h'
  rw [e] at a1 a2 a3
  exact ⟨a1.symm.trans b1, a2.symm.trans b2, a3.symm.trans b3⟩
end Go.Proofs.Ythhfcambdmdgfaa
namespace Go.Proofs.Ythhfcambdmdgfaa
open Go.RowKit Go.Maps
set_option linter.unusedVariables false
set_option linter.unusedSimpArgs false
theorem kL_inj {a b : KS} (h : kL a = kL b) : a = b := by
  have h1 := kL_key a
  rw [h] at h1
  exact Subtype.ext (keyV_inj (kS_keyed.inj h1 (kL_key b)))
theorem strictKS : Strict ltKS :=
  ⟨fun a => Go.WideShapes.before_irrefl _, fun h k => Go.WideShapes.before_trans h k, fun {a b} h => Go.ChangeMaps.before_total (kS_law.str (kL_key a)) (kS_law.str (kL_key b)) (fun e => h (kL_inj e))⟩
theorem rightO_key {o : ObjD} (h : rightO o = true) : keyOk o.key = true := by
  unfold rightO at h
  simp only [Bool.and_eq_true] at h
  exact h.1.1.1.1
theorem nodup_on {α β : Type} {f : α → β} : ∀ {l : List α}, l.Nodup → (∀ a ∈ l, ∀ b ∈ l, f a = f b → a = b) → (l.map f).Nodup
  | [], _, _ => List.nodup_nil
  | x :: r, h, hf => by
    rw [List.nodup_cons] at h
    rw [List.map_cons, List.nodup_cons]
    refine ⟨fun q => ?_, nodup_on h.2 (fun a ha b hb => hf a (List.mem_cons_of_mem _ ha) b (List.mem_cons_of_mem _ hb))⟩
    obtain ⟨y, hy, e⟩ := List.mem_map.1 q
    have := hf y (List.mem_cons_of_mem _ hy) x (List.mem_cons_self ..) e
    exact h.1 (this ▸ hy)
end Go.Proofs.Ythhfcambdmdgfaa
namespace Go.Proofs.Ythhfcambdmdgfaa
open Go.RowKit Go.Maps
set_option linter.unusedVariables false
set_option linter.unusedSimpArgs false
def gV (v : Int) : Value := .int .i64 v
def GMap (w : World) (gb : Nat) (G : AM KS Int) : Prop := w.ownsMap Try.prog 24 RV gb G.length (dmA kL gV G)
structure CacheAt (w : World) (base cp ob gb : Nat) (fl : Int) (M : AM KS OX) (G : AM KS Int) : Prop where
  cell : w.heap[cp]? = some (.cells #[.map (some ob), .map (some gb), .int .i64 fl] 98)
  objs : OMap w ob M
  graves : GMap w gb G
  resM : ∀ q ∈ M, ResF w base q.2.2 q.2.1.charge ∧ oIn q.2.1 ∧ keySmall q.2.1.key ∧ q.1.1 = q.2.1.key
  ints : in64 fl ∧ ∀ q ∈ G, in64 q.2
  ge : base ≤ cp ∧ base ≤ ob ∧ base ≤ gb
  ne : ob ≠ gb
section
variable {w w' : World} {base cp ob gb : Nat} {fl : Int} {M : AM KS OX} {G : AM KS Int}
theorem CacheAt.below (h : CacheAt w base cp ob gb fl M G) (hb : Below w.heap.size w w') : CacheAt w' base cp ob gb fl M G :=
  ⟨blk_below h.cell hb, h.objs.below hb, mv_below h.graves hb, fun q hq => ⟨(h.resM q hq).1.below hb, (h.resM q hq).2⟩, h.ints, h.ge, h.ne⟩
theorem CacheAt.ptr (h : CacheAt w base cp ob gb fl M G) : cp < w.heap.size := blk_lt h.cell
end
theorem zero_i64 (w : World) : (zeroValue 2).run Try.prog w = .ok (.int .i64 0) w := by kernel_rfl
set_option maxRecDepth 100000 in
set_option maxHeartbeats 4000000 in
theorem cnew_calls (w : World) : Calls Try.prog 43 #[] w fun e w' => ∃ cp ob gb, e = .returned (.pointer (some ⟨cp, 0, none⟩)) ∧ CacheAt w' w.heap.size cp ob gb 0 [] [] ∧ Below w.heap.size w w' := by
  have hmm := @run_makeMap Try.prog
  have HO := Lib.hid (World.ownsMap_made w Try.prog 24 RV)
  have HG := Lib.hid (fun (U : World) => World.ownsMap_made U Try.prog 24 RV)
  go_enter Try.func43, Try.ntmps43
  go_wp2_with fail
  go_ret
  refine ⟨w.heap.size + 2, w.heap.size, w.heap.size + 1, rfl, ⟨?_, ?_, ?_, by rintro q ⟨⟩, ⟨(show in64 0 by unfold in64; omega), by rintro q ⟨⟩⟩, by omega, by omega⟩, (((Below.refl _ _).alloc (Nat.le_refl _) _).alloc (by simp) _).alloc (by simp; omega) _⟩
  · have h := blk_newAt (((w.alloc (.map #[] 0)).alloc (.map #[] 0))) (.cells #[.map (some w.heap.size), .map (some (w.heap.size + 1)), .int .i64 0] 98) (k := w.heap.size + 2) (by simp)
    exact h
  · exact OMap.below (M := []) (OMap.below (M := []) (mv_tight HO.out) ((Below.refl _ _).alloc (Nat.le_refl _) _)) ((Below.refl _ _).alloc (Nat.le_refl _) _)
  · have h := HG.out (w.alloc (.map #[] 0))
    rw [World.size_alloc] at h
    exact mv_below (mv_tight h) ((Below.refl _ _).alloc (Nat.le_refl _) _)
end Go.Proofs.Ythhfcambdmdgfaa
namespace Go.Proofs.Ythhfcambdmdgfaa
open Go.RowKit Go.Maps
set_option linter.unusedVariables false
set_option linter.unusedSimpArgs false
set_option maxRecDepth 100000 in
set_option maxHeartbeats 8000000 in
theorem cget_none (w : World) {sp mb : Nat} (k : KeyD) (m0 : w.cell? ⟨sp, 0, none⟩ = some (.map (some mb))) (hlk : ∀ U, Below w.heap.size w U → (Instr.lookup 92 (.map (some mb)) (.agg #[.string k.kind, .string k.space, .string k.name]) true).run Try.prog U = .ok (.tuple #[.agg #[.string ⟨#[]⟩, .string ⟨#[]⟩, .string ⟨#[]⟩, .int .i64 0, .string ⟨#[]⟩, .bool false, .bool false, .slice none 0 0], .bool false]) U) :
    Calls Try.prog 50 #[.pointer (some ⟨sp, 0, none⟩), .agg #[.string k.kind, .string k.space, .string k.name]] w (GetOut w zeroO false) := by
  have hsp : sp < w.heap.size := lt_of_cell m0
  have HLK := Lib.hid hlk
  clear hlk
  go_enter Try.func50, Try.ntmps50
  go_upto_region 3 with fail
  first | with_reducible refine name_wp ?_ | with_reducible refine name_calls ?_
  intro W hWeq
  have g0 : W.heap[w.heap.size]? = some (.cells #[.string k.kind, .string k.space, .string k.name] 24) := by rw [hWeq]; repeat (first | (with_reducible exact blk_newAt _ _ (by simp)) | with_reducible refine blk_drew ?_ | with_reducible refine blk_dN ?_ _ | with_reducible refine blk_old ?_ _)
  have g1 : W.heap[w.heap.size + 1]? = some (.cells #[.string ⟨#[]⟩, .string ⟨#[]⟩, .string ⟨#[]⟩, .int .i64 0, .string ⟨#[]⟩, .bool false, .bool false, .slice none 0 0] 27) := by rw [hWeq]; repeat (first | (with_reducible exact blk_newAt _ _ (by simp)) | with_reducible refine blk_drew ?_ | with_reducible refine blk_dN ?_ _ | with_reducible refine blk_old ?_ _)
  have hw : Below w.heap.size w W := by rw [hWeq]; repeat (first | with_reducible exact Below.refl _ _ | with_reducible refine Below.drew ?_ | with_reducible refine bl_dN ?_ _ | with_reducible refine Below.alloc ?_ (by simp <;> omega) _)
  clear hWeq
  have hz : w.heap.size + 2 ≤ W.heap.size := by have := blk_lt g1; omega
  have c0_0 : W.cell? ⟨w.heap.size, 0, none⟩ = some (.string k.kind) := blk_cell g0 0
  have c0_1 : W.cell? ⟨w.heap.size, 1, none⟩ = some (.string k.space) := blk_cell g0 1
  have c0_2 : W.cell? ⟨w.heap.size, 2, none⟩ = some (.string k.name) := blk_cell g0 2
  have f0 : ∀ j, W.frozen? ⟨w.heap.size, j, none⟩ = false := blk_free g0
  have c1_0 : W.cell? ⟨w.heap.size + 1, 0, none⟩ = some (.string ⟨#[]⟩) := blk_cell g1 0
  have c1_1 : W.cell? ⟨w.heap.size + 1, 1, none⟩ = some (.string ⟨#[]⟩) := blk_cell g1 1
  have c1_2 : W.cell? ⟨w.heap.size + 1, 2, none⟩ = some (.string ⟨#[]⟩) := blk_cell g1 2
  have c1_3 : W.cell? ⟨w.heap.size + 1, 3, none⟩ = some (.int .i64 0) := blk_cell g1 3
  have c1_4 : W.cell? ⟨w.heap.size + 1, 4, none⟩ = some (.string ⟨#[]⟩) := blk_cell g1 4
  have c1_5 : W.cell? ⟨w.heap.size + 1, 5, none⟩ = some (.bool false) := blk_cell g1 5
  have c1_6 : W.cell? ⟨w.heap.size + 1, 6, none⟩ = some (.bool false) := blk_cell g1 6
  have c1_7 : W.cell? ⟨w.heap.size + 1, 7, none⟩ = some (.slice none 0 0) := blk_cell g1 7
  have f1 : ∀ j, W.frozen? ⟨w.heap.size + 1, j, none⟩ = false := blk_free g1
  have hB : Below W.heap.size W W := Below.refl _ _
  have G0 := Lib.hid g0; clear g0
  have F0 := Lib.hid f0; clear f0
  have G1 := Lib.hid g1; clear g1
  have F1 := Lib.hid f1; clear f1
  have Hw := Lib.hid hw; clear hw
  have m0 := cb Hw.out m0
  have HL2 : Hid (∀ U, Below W.heap.size W U → (Instr.lookup 92 (.map (some mb)) (.agg #[.string k.kind, .string k.space, .string k.name]) true).run Try.prog U = .ok (.tuple #[.agg #[.string ⟨#[]⟩, .string ⟨#[]⟩, .string ⟨#[]⟩, .int .i64 0, .string ⟨#[]⟩, .bool false, .bool false, .slice none 0 0], .bool false]) U) := Lib.hid fun U hb => by
    have q := HLK.out U (bl_from Hw.out hb)
    exact q
  clear HLK
  go_upto_region 3 with fail
  have hB := hB.drew
  refine region_seq (fun w' => Below W.heap.size W w') [(0, true), (1, true), (2, true), (3, true), (4, true), (5, true), (6, true), (7, true), (8, true), (9, false), (10, false), (11, true)] (by kernel_rfl) (by kernel_rfl) (fun _ _ _ _ h => h) hB ?_
  try generalize World.drew _ = wS at hB ⊢
  refine seq_take (v := ?_) (a' := ?_) (some 12) rfl rfl (by rfl) ?_ ?_ ?_
  rotate_left; rotate_left
  · intro w' hS; go_simp; with_reducible rfl
  · simp only [Act.put, List.setIfInBounds_toArray, List.set_cons_zero, List.set_cons_succ]; rfl
  refine seq_take (v := ?_) (a' := ?_) (some 13) rfl rfl (by rfl) ?_ ?_ ?_
  rotate_left; rotate_left
  · intro w' hS; go_simp; with_reducible rfl
  · simp only [Act.put, List.setIfInBounds_toArray, List.set_cons_zero, List.set_cons_succ]; rfl
  refine seq_take (v := ?_) (a' := ?_) (some 14) rfl rfl (by rfl) ?_ ?_ ?_
  rotate_left; rotate_left
  · intro w' hS; go_simp; with_reducible rfl
  · simp only [Act.put, List.setIfInBounds_toArray, List.set_cons_zero, List.set_cons_succ]; rfl
  refine seq_take (v := ?_) (a' := ?_) (some 15) rfl rfl (by rfl) ?_ ?_ ?_
  rotate_left; rotate_left
  · intro w' hS; have q0 := cb hS m0; have q1 := cb hS c0_0; have q2 := cb hS c0_1; have q3 := cb hS c0_2; have hl := HL2.out _ hS; go_simp; with_reducible rfl
  · simp only [Act.put, List.setIfInBounds_toArray, List.set_cons_zero, List.set_cons_succ]; rfl
  refine seq_take (v := ?_) (a' := ?_) (some 16) rfl rfl (by rfl) ?_ ?_ ?_
  rotate_left; rotate_left
  · intro w' hS; have q0 := cb hS m0; have q1 := cb hS c0_0; have q2 := cb hS c0_1; have q3 := cb hS c0_2; have hl := HL2.out _ hS; go_simp; with_reducible rfl
  · simp only [Act.put, List.setIfInBounds_toArray, List.set_cons_zero, List.set_cons_succ]; rfl
  refine seq_take (v := ?_) (a' := ?_) (some 17) rfl rfl (by rfl) ?_ ?_ ?_
  rotate_left; rotate_left
  · intro w' hS; have q0 := cb hS m0; have q1 := cb hS c0_0; have q2 := cb hS c0_1; have q3 := cb hS c0_2; have hl := HL2.out _ hS; go_simp; with_reducible rfl
  · simp only [Act.put, List.setIfInBounds_toArray, List.set_cons_zero, List.set_cons_succ]; rfl
  refine seq_take (v := ?_) (a' := ?_) (some 11) rfl rfl (by rfl) ?_ ?_ ?_
  rotate_left; rotate_left
  · intro w' hS; go_simp; with_reducible rfl
  · simp only [Act.put, List.setIfInBounds_toArray, List.set_cons_zero, List.set_cons_succ]; rfl
  refine seq_take (v := ?_) (a' := ?_) (some 18) rfl rfl (by rfl) ?_ ?_ ?_
  rotate_left; rotate_left
  · intro w' hS; go_simp; with_reducible rfl
  · simp only [Act.put, List.setIfInBounds_toArray, List.set_cons_zero, List.set_cons_succ]; rfl
  refine seq_take (v := ?_) (a' := ?_) (some 19) rfl rfl (by rfl) ?_ ?_ ?_
  rotate_left; rotate_left
  · intro w' hS; go_simp; with_reducible rfl
  · simp only [Act.put, List.setIfInBounds_toArray, List.set_cons_zero, List.set_cons_succ]; rfl
  refine seq_op (some 6) rfl rfl (by rfl) ?_
  apply Exists.intro; apply Exists.intro; apply And.intro
  · go_simp; first | exact ⟨rfl, rfl⟩ | rfl
  apply Exists.intro; apply And.intro
  · simp only [Act.put, List.setIfInBounds_toArray, List.set_cons_zero, List.set_cons_succ]; rfl
  apply And.intro
  · exact (by repeat (first | with_reducible exact hB | refine Below.alloc ?_ (by have := hB.size; simp; omega) _ | refine bl_dN ?_ _ | refine Below.drew ?_ | refine Below.setCell ?_ (by have := hB.size; simp; omega) _))
  refine seq_store none rfl rfl (by rfl) ?_
  apply Exists.intro; apply And.intro
  · have k0_0 := cb hB c0_0; have k0_1 := cb hB c0_1; have k0_2 := cb hB c0_2; have k1_0 := cb hB c1_0; have k1_1 := cb hB c1_1; have k1_2 := cb hB c1_2; have k1_3 := cb hB c1_3; have k1_4 := cb hB c1_4; have k1_5 := cb hB c1_5; have k1_6 := cb hB c1_6; have k1_7 := cb hB c1_7; have kf0_0 := fb hB (lt_of_cell c0_0) (F0.out 0); have kf0_1 := fb hB (lt_of_cell c0_1) (F0.out 1); have kf0_2 := fb hB (lt_of_cell c0_2) (F0.out 2); have kf1_0 := fb hB (lt_of_cell c1_0) (F1.out 0); have kf1_1 := fb hB (lt_of_cell c1_1) (F1.out 1); have kf1_2 := fb hB (lt_of_cell c1_2) (F1.out 2); have kf1_3 := fb hB (lt_of_cell c1_3) (F1.out 3); have kf1_4 := fb hB (lt_of_cell c1_4) (F1.out 4); have kf1_5 := fb hB (lt_of_cell c1_5) (F1.out 5); have kf1_6 := fb hB (lt_of_cell c1_6) (F1.out 6); have kf1_7 := fb hB (lt_of_cell c1_7) (F1.out 7); go_simp; first | exact ⟨rfl, rfl⟩ | rfl
  apply Exists.intro; apply And.intro
  · simp only [Act.put, List.setIfInBounds_toArray, List.set_cons_zero, List.set_cons_succ]; rfl
  apply And.intro
  · exact (by repeat (first | with_reducible exact hB | refine Below.alloc ?_ (by have := hB.size; simp; omega) _ | refine bl_dN ?_ _ | refine Below.drew ?_ | refine Below.setCell ?_ (by have := hB.size; simp; omega) _))
  refine seq_take (v := ?_) (a' := ?_) (some 7) rfl rfl (by rfl) ?_ ?_ ?_
  rotate_left; rotate_left
  · intro w' hS; go_simp; with_reducible rfl
  · simp only [Act.put, List.setIfInBounds_toArray, List.set_cons_zero, List.set_cons_succ]; rfl
  refine seq_done ?_
  refine name_exit ?_
  intro U hU
  have gU : U.heap[wS.heap.size]? = some (.cells #[.string ⟨#[]⟩, .string ⟨#[]⟩, .string ⟨#[]⟩, .int .i64 0, .string ⟨#[]⟩, .bool false, .bool false, .slice none 0 0] 27) := by rw [hU]; exact blk_new wS _
  have hbU : Below W.heap.size W U := by rw [hU]; exact hB.alloc hB.size _
  clear hU hB
  have d0 : U.cell? ⟨wS.heap.size, 0, none⟩ = some (.string ⟨#[]⟩) := blk_cell gU 0
  have d1 : U.cell? ⟨wS.heap.size, 1, none⟩ = some (.string ⟨#[]⟩) := blk_cell gU 1
  have d2 : U.cell? ⟨wS.heap.size, 2, none⟩ = some (.string ⟨#[]⟩) := blk_cell gU 2
  have d3 : U.cell? ⟨wS.heap.size, 3, none⟩ = some (.int .i64 0) := blk_cell gU 3
  have d4 : U.cell? ⟨wS.heap.size, 4, none⟩ = some (.string ⟨#[]⟩) := blk_cell gU 4
  have d5 : U.cell? ⟨wS.heap.size, 5, none⟩ = some (.bool false) := blk_cell gU 5
  have d6 : U.cell? ⟨wS.heap.size, 6, none⟩ = some (.bool false) := blk_cell gU 6
  have d7 : U.cell? ⟨wS.heap.size, 7, none⟩ = some (.slice none 0 0) := blk_cell gU 7
  clear gU
  have HC := Lib.hid (ownO_calls U (zeroO_S U) zeroO_small)
  unfold objV at HC
  have HBU := Lib.hid (bl_from Hw.out hbU)
  go_upto_region 4 with fail
  go_wp2_with (go_at_call 56; refine HC.out.mono ?_; rintro e w2 ⟨g, rfl, HF, hb⟩; have HB2 := Lib.hid (bl_next HBU.out hb); have k1_0 := cb (bl_next hbU hb) c1_0; have kf1_0 := fb (bl_next hbU hb) (lt_of_cell c1_0) (F1.out 0); have k1_1 := cb (bl_next hbU hb) c1_1; have kf1_1 := fb (bl_next hbU hb) (lt_of_cell c1_1) (F1.out 1); have k1_2 := cb (bl_next hbU hb) c1_2; have kf1_2 := fb (bl_next hbU hb) (lt_of_cell c1_2) (F1.out 2); have k1_3 := cb (bl_next hbU hb) c1_3; have kf1_3 := fb (bl_next hbU hb) (lt_of_cell c1_3) (F1.out 3); have k1_4 := cb (bl_next hbU hb) c1_4; have kf1_4 := fb (bl_next hbU hb) (lt_of_cell c1_4) (F1.out 4); have k1_5 := cb (bl_next hbU hb) c1_5; have kf1_5 := fb (bl_next hbU hb) (lt_of_cell c1_5) (F1.out 5); have k1_6 := cb (bl_next hbU hb) c1_6; have kf1_6 := fb (bl_next hbU hb) (lt_of_cell c1_6) (F1.out 6); have k1_7 := cb (bl_next hbU hb) c1_7; have kf1_7 := fb (bl_next hbU hb) (lt_of_cell c1_7) (F1.out 7); have HT := Lib.hid (TyB.below (w := W) ⟨_, G1.out⟩ (bl_next hbU hb)); clear hb)
  refine name_body ?_
  intro Z hZ
  have hkZ : Kept (fun k => k = w.heap.size + 1) w2 Z := by
    rw [hZ]
    iterate 8 (refine Kept.setCell ?_ _ _ (.inl rfl))
    exact Kept.refl _ _
  have r0 : Z.cell? ⟨w.heap.size + 1, 0, none⟩ = some (.string zeroO.key.kind) := by rw [hZ]; go_simp
  have r1 : Z.cell? ⟨w.heap.size + 1, 1, none⟩ = some (.string zeroO.key.space) := by rw [hZ]; go_simp
  have r2 : Z.cell? ⟨w.heap.size + 1, 2, none⟩ = some (.string zeroO.key.name) := by rw [hZ]; go_simp
  have r3 : Z.cell? ⟨w.heap.size + 1, 3, none⟩ = some (.int .i64 zeroO.ver) := by rw [hZ]; go_simp
  have r4 : Z.cell? ⟨w.heap.size + 1, 4, none⟩ = some (.string zeroO.cls) := by rw [hZ]; go_simp
  have r5 : Z.cell? ⟨w.heap.size + 1, 5, none⟩ = some (.bool zeroO.term) := by rw [hZ]; go_simp
  have r6 : Z.cell? ⟨w.heap.size + 1, 6, none⟩ = some (.bool zeroO.best) := by rw [hZ]; go_simp
  have r7 : Z.cell? ⟨w.heap.size + 1, 7, none⟩ = some (.slice (some ⟨g, 0, none⟩) zeroO.charge.length zeroO.charge.length) := by rw [hZ]; go_simp
  clear hZ
  have hsz : w.heap.size ≤ w2.heap.size := HB2.out.size
  refine bodyPost_ret (v := .tuple #[.agg #[.string zeroO.key.kind, .string zeroO.key.space, .string zeroO.key.name, .int .i64 zeroO.ver, .string zeroO.cls, .bool zeroO.term, .bool zeroO.best, .slice (some ⟨g, 0, none⟩) zeroO.charge.length zeroO.charge.length], .bool false]) (by simp [results, Try.results50, go_sem, r0, r1, r2, r3, r4, r5, r6, r7]) rfl ?_
  refine ⟨_, rfl, (HF.out.mono HBU.out.size).kept hkZ (fun j e c hc => by rw [e] at hc; exact TyB.ne HT.out hc (by decide)), HB2.out.trans (hkZ.below hsz (fun j e => by omega))⟩
set_option maxRecDepth 100000 in
set_option maxHeartbeats 8000000 in
theorem cget_calls (w : World) {base sp mb gb : Nat} {fl : Int} {M : AM KS OX} {G : AM KS Int} (h : CacheAt w base sp mb gb fl M G) (hS : ∀ q ∈ M, objSmall q.2.1) (k : KS) :
    Calls Try.prog 50 #[.pointer (some ⟨sp, 0, none⟩), .agg #[.string k.1.kind, .string k.1.space, .string k.1.name]] w (GetOut w (objOf M k) (hasA M k)) := by
  cases hg : getA M k with
  | none =>
    have he : objOf M k = zeroO ∧ hasA M k = false := by rw [hasA_get]; unfold objOf; rw [hg]; exact ⟨rfl, rfl⟩
    rw [he.1, he.2]
    exact cget_none w k.1 (blk_cell h.cell 0) (fun U hb => by have q := omap_look (h.objs.below hb) k; rw [hg, he.2] at q; exact q)
  | some p =>
    have hsp := h.ptr
    have HG := Lib.hid (fun p (e : getA M k = some p) => And.intro (h.resM _ (getA_mem e)) (hS _ (getA_mem e)))
    have HLK := Lib.hid (fun (U : World) (hb : Below w.heap.size w U) => omap_look (h.objs.below hb) k)
    have m0 : w.cell? ⟨sp, 0, none⟩ = some (.map (some mb)) := blk_cell h.cell 0
    clear h hS
    go_enter Try.func50, Try.ntmps50
    go_upto_region 3 with fail
    first | with_reducible refine name_wp ?_ | with_reducible refine name_calls ?_
    intro W hWeq
    have g0 : W.heap[w.heap.size]? = some (.cells #[.string k.1.kind, .string k.1.space, .string k.1.name] 24) := by rw [hWeq]; repeat (first | (with_reducible exact blk_newAt _ _ (by simp)) | with_reducible refine blk_drew ?_ | with_reducible refine blk_dN ?_ _ | with_reducible refine blk_old ?_ _)
    have g1 : W.heap[w.heap.size + 1]? = some (.cells #[.string ⟨#[]⟩, .string ⟨#[]⟩, .string ⟨#[]⟩, .int .i64 0, .string ⟨#[]⟩, .bool false, .bool false, .slice none 0 0] 27) := by rw [hWeq]; repeat (first | (with_reducible exact blk_newAt _ _ (by simp)) | with_reducible refine blk_drew ?_ | with_reducible refine blk_dN ?_ _ | with_reducible refine blk_old ?_ _)
    have hw : Below w.heap.size w W := by rw [hWeq]; repeat (first | with_reducible exact Below.refl _ _ | with_reducible refine Below.drew ?_ | with_reducible refine bl_dN ?_ _ | with_reducible refine Below.alloc ?_ (by simp <;> omega) _)
    clear hWeq
    have hz : w.heap.size + 2 ≤ W.heap.size := by have := blk_lt g1; omega
    have c0_0 : W.cell? ⟨w.heap.size, 0, none⟩ = some (.string k.1.kind) := blk_cell g0 0
    have c0_1 : W.cell? ⟨w.heap.size, 1, none⟩ = some (.string k.1.space) := blk_cell g0 1
    have c0_2 : W.cell? ⟨w.heap.size, 2, none⟩ = some (.string k.1.name) := blk_cell g0 2
    have f0 : ∀ j, W.frozen? ⟨w.heap.size, j, none⟩ = false := blk_free g0
    have c1_0 : W.cell? ⟨w.heap.size + 1, 0, none⟩ = some (.string ⟨#[]⟩) := blk_cell g1 0
    have c1_1 : W.cell? ⟨w.heap.size + 1, 1, none⟩ = some (.string ⟨#[]⟩) := blk_cell g1 1
    have c1_2 : W.cell? ⟨w.heap.size + 1, 2, none⟩ = some (.string ⟨#[]⟩) := blk_cell g1 2
    have c1_3 : W.cell? ⟨w.heap.size + 1, 3, none⟩ = some (.int .i64 0) := blk_cell g1 3
    have c1_4 : W.cell? ⟨w.heap.size + 1, 4, none⟩ = some (.string ⟨#[]⟩) := blk_cell g1 4
    have c1_5 : W.cell? ⟨w.heap.size + 1, 5, none⟩ = some (.bool false) := blk_cell g1 5
    have c1_6 : W.cell? ⟨w.heap.size + 1, 6, none⟩ = some (.bool false) := blk_cell g1 6
    have c1_7 : W.cell? ⟨w.heap.size + 1, 7, none⟩ = some (.slice none 0 0) := blk_cell g1 7
    have f1 : ∀ j, W.frozen? ⟨w.heap.size + 1, j, none⟩ = false := blk_free g1
    have hB : Below W.heap.size W W := Below.refl _ _
    have G0 := Lib.hid g0; clear g0
    have F0 := Lib.hid f0; clear f0
    have G1 := Lib.hid g1; clear g1
    have F1 := Lib.hid f1; clear f1
    have Hw := Lib.hid hw; clear hw
    have m0 := cb Hw.out m0
    obtain ⟨⟨HR, HO, _, _⟩, HSM⟩ := HG.out p hg
    obtain ⟨o, so⟩ := p
    obtain ⟨go, hgo⟩ := HR.form
    simp only at hgo
    subst hgo
    have HE := Lib.hid (show objOf M k = o ∧ hasA M k = true by rw [hasA_get]; unfold objOf; rw [hg]; exact ⟨rfl, rfl⟩)
    have HOS := Lib.hid (show ObjS w (.slice (some ⟨go, 0, none⟩) o.charge.length o.charge.length) o from ⟨HR.resS HO.2, HO.1⟩)
    clear HR HO HG
    have HSM2 := Lib.hid HSM
    clear HSM
    have HL2 : Hid (∀ U, Below W.heap.size W U → (Instr.lookup 92 (.map (some mb)) (.agg #[.string k.1.kind, .string k.1.space, .string k.1.name]) true).run Try.prog U = .ok (.tuple #[.agg #[.string o.key.kind, .string o.key.space, .string o.key.name, .int .i64 o.ver, .string o.cls, .bool o.term, .bool o.best, .slice (some ⟨go, 0, none⟩) o.charge.length o.charge.length], .bool true]) U) := Lib.hid fun U hb => by
      have q := HLK.out U (bl_from Hw.out hb)
      rw [hg, HE.out.2] at q; exact q
    clear hg HLK
    go_upto_region 3 with fail
    have hB := hB.drew
    refine region_seq (fun w' => Below W.heap.size W w') [(0, true), (1, true), (2, true), (3, true), (4, true), (5, true), (6, true), (7, true), (8, true), (9, false), (10, false), (11, true)] (by kernel_rfl) (by kernel_rfl) (fun _ _ _ _ h => h) hB ?_
    try generalize World.drew _ = wS at hB ⊢
    refine seq_take (v := ?_) (a' := ?_) (some 12) rfl rfl (by rfl) ?_ ?_ ?_
    rotate_left; rotate_left
    · intro w' hS; go_simp; with_reducible rfl
    · simp only [Act.put, List.setIfInBounds_toArray, List.set_cons_zero, List.set_cons_succ]; rfl
    refine seq_take (v := ?_) (a' := ?_) (some 13) rfl rfl (by rfl) ?_ ?_ ?_
    rotate_left; rotate_left
    · intro w' hS; go_simp; with_reducible rfl
    · simp only [Act.put, List.setIfInBounds_toArray, List.set_cons_zero, List.set_cons_succ]; rfl
    refine seq_take (v := ?_) (a' := ?_) (some 14) rfl rfl (by rfl) ?_ ?_ ?_
    rotate_left; rotate_left
    · intro w' hS; go_simp; with_reducible rfl
    · simp only [Act.put, List.setIfInBounds_toArray, List.set_cons_zero, List.set_cons_succ]; rfl
    refine seq_take (v := ?_) (a' := ?_) (some 15) rfl rfl (by rfl) ?_ ?_ ?_
    rotate_left; rotate_left
    · intro w' hS; have q0 := cb hS m0; have q1 := cb hS c0_0; have q2 := cb hS c0_1; have q3 := cb hS c0_2; have hl := HL2.out _ hS; go_simp; with_reducible rfl
    · simp only [Act.put, List.setIfInBounds_toArray, List.set_cons_zero, List.set_cons_succ]; rfl
    refine seq_take (v := ?_) (a' := ?_) (some 16) rfl rfl (by rfl) ?_ ?_ ?_
    rotate_left; rotate_left
    · intro w' hS; have q0 := cb hS m0; have q1 := cb hS c0_0; have q2 := cb hS c0_1; have q3 := cb hS c0_2; have hl := HL2.out _ hS; go_simp; with_reducible rfl
    · simp only [Act.put, List.setIfInBounds_toArray, List.set_cons_zero, List.set_cons_succ]; rfl
    refine seq_take (v := ?_) (a' := ?_) (some 17) rfl rfl (by rfl) ?_ ?_ ?_
    rotate_left; rotate_left
    · intro w' hS; have q0 := cb hS m0; have q1 := cb hS c0_0; have q2 := cb hS c0_1; have q3 := cb hS c0_2; have hl := HL2.out _ hS; go_simp; with_reducible rfl
    · simp only [Act.put, List.setIfInBounds_toArray, List.set_cons_zero, List.set_cons_succ]; rfl
    refine seq_take (v := ?_) (a' := ?_) (some 11) rfl rfl (by rfl) ?_ ?_ ?_
    rotate_left; rotate_left
    · intro w' hS; go_simp; with_reducible rfl
    · simp only [Act.put, List.setIfInBounds_toArray, List.set_cons_zero, List.set_cons_succ]; rfl
    refine seq_take (v := ?_) (a' := ?_) (some 18) rfl rfl (by rfl) ?_ ?_ ?_
    rotate_left; rotate_left
    · intro w' hS; go_simp; with_reducible rfl
    · simp only [Act.put, List.setIfInBounds_toArray, List.set_cons_zero, List.set_cons_succ]; rfl
    refine seq_take (v := ?_) (a' := ?_) (some 19) rfl rfl (by rfl) ?_ ?_ ?_
    rotate_left; rotate_left
    · intro w' hS; go_simp; with_reducible rfl
    · simp only [Act.put, List.setIfInBounds_toArray, List.set_cons_zero, List.set_cons_succ]; rfl
    refine seq_op (some 6) rfl rfl (by rfl) ?_
    apply Exists.intro; apply Exists.intro; apply And.intro
    · go_simp; first | exact ⟨rfl, rfl⟩ | rfl
    apply Exists.intro; apply And.intro
    · simp only [Act.put, List.setIfInBounds_toArray, List.set_cons_zero, List.set_cons_succ]; rfl
    apply And.intro
    · exact (by repeat (first | with_reducible exact hB | refine Below.alloc ?_ (by have := hB.size; simp; omega) _ | refine bl_dN ?_ _ | refine Below.drew ?_ | refine Below.setCell ?_ (by have := hB.size; simp; omega) _))
    refine seq_store none rfl rfl (by rfl) ?_
    apply Exists.intro; apply And.intro
    · have k0_0 := cb hB c0_0; have k0_1 := cb hB c0_1; have k0_2 := cb hB c0_2; have k1_0 := cb hB c1_0; have k1_1 := cb hB c1_1; have k1_2 := cb hB c1_2; have k1_3 := cb hB c1_3; have k1_4 := cb hB c1_4; have k1_5 := cb hB c1_5; have k1_6 := cb hB c1_6; have k1_7 := cb hB c1_7; have kf0_0 := fb hB (lt_of_cell c0_0) (F0.out 0); have kf0_1 := fb hB (lt_of_cell c0_1) (F0.out 1); have kf0_2 := fb hB (lt_of_cell c0_2) (F0.out 2); have kf1_0 := fb hB (lt_of_cell c1_0) (F1.out 0); have kf1_1 := fb hB (lt_of_cell c1_1) (F1.out 1); have kf1_2 := fb hB (lt_of_cell c1_2) (F1.out 2); have kf1_3 := fb hB (lt_of_cell c1_3) (F1.out 3); have kf1_4 := fb hB (lt_of_cell c1_4) (F1.out 4); have kf1_5 := fb hB (lt_of_cell c1_5) (F1.out 5); have kf1_6 := fb hB (lt_of_cell c1_6) (F1.out 6); have kf1_7 := fb hB (lt_of_cell c1_7) (F1.out 7); go_simp; first | exact ⟨rfl, rfl⟩ | rfl
    apply Exists.intro; apply And.intro
    · simp only [Act.put, List.setIfInBounds_toArray, List.set_cons_zero, List.set_cons_succ]; rfl
    apply And.intro
    · exact (by repeat (first | with_reducible exact hB | refine Below.alloc ?_ (by have := hB.size; simp; omega) _ | refine bl_dN ?_ _ | refine Below.drew ?_ | refine Below.setCell ?_ (by have := hB.size; simp; omega) _))
    refine seq_take (v := ?_) (a' := ?_) (some 7) rfl rfl (by rfl) ?_ ?_ ?_
    rotate_left; rotate_left
    · intro w' hS; go_simp; with_reducible rfl
    · simp only [Act.put, List.setIfInBounds_toArray, List.set_cons_zero, List.set_cons_succ]; rfl
    refine seq_done ?_
    refine name_exit ?_
    intro U hU
    have gU : U.heap[wS.heap.size]? = some (.cells #[.string o.key.kind, .string o.key.space, .string o.key.name, .int .i64 o.ver, .string o.cls, .bool o.term, .bool o.best, .slice (some ⟨go, 0, none⟩) o.charge.length o.charge.length] 27) := by rw [hU]; exact blk_new wS _
    have hbU : Below W.heap.size W U := by rw [hU]; exact hB.alloc hB.size _
    clear hU hB
    have d0 : U.cell? ⟨wS.heap.size, 0, none⟩ = some (.string o.key.kind) := blk_cell gU 0
    have d1 : U.cell? ⟨wS.heap.size, 1, none⟩ = some (.string o.key.space) := blk_cell gU 1
    have d2 : U.cell? ⟨wS.heap.size, 2, none⟩ = some (.string o.key.name) := blk_cell gU 2
    have d3 : U.cell? ⟨wS.heap.size, 3, none⟩ = some (.int .i64 o.ver) := blk_cell gU 3
    have d4 : U.cell? ⟨wS.heap.size, 4, none⟩ = some (.string o.cls) := blk_cell gU 4
    have d5 : U.cell? ⟨wS.heap.size, 5, none⟩ = some (.bool o.term) := blk_cell gU 5
    have d6 : U.cell? ⟨wS.heap.size, 6, none⟩ = some (.bool o.best) := blk_cell gU 6
    have d7 : U.cell? ⟨wS.heap.size, 7, none⟩ = some (.slice (some ⟨go, 0, none⟩) o.charge.length o.charge.length) := blk_cell gU 7
    clear gU
    have HC := Lib.hid (ownO_calls U (HOS.out.below (bl_from Hw.out hbU)) HSM2.out)
    unfold objV at HC
    have HBU := Lib.hid (bl_from Hw.out hbU)
    go_upto_region 4 with fail
    go_wp2_with (go_at_call 56; refine HC.out.mono ?_; rintro e w2 ⟨g, rfl, HF, hb⟩; have HB2 := Lib.hid (bl_next HBU.out hb); have k1_0 := cb (bl_next hbU hb) c1_0; have kf1_0 := fb (bl_next hbU hb) (lt_of_cell c1_0) (F1.out 0); have k1_1 := cb (bl_next hbU hb) c1_1; have kf1_1 := fb (bl_next hbU hb) (lt_of_cell c1_1) (F1.out 1); have k1_2 := cb (bl_next hbU hb) c1_2; have kf1_2 := fb (bl_next hbU hb) (lt_of_cell c1_2) (F1.out 2); have k1_3 := cb (bl_next hbU hb) c1_3; have kf1_3 := fb (bl_next hbU hb) (lt_of_cell c1_3) (F1.out 3); have k1_4 := cb (bl_next hbU hb) c1_4; have kf1_4 := fb (bl_next hbU hb) (lt_of_cell c1_4) (F1.out 4); have k1_5 := cb (bl_next hbU hb) c1_5; have kf1_5 := fb (bl_next hbU hb) (lt_of_cell c1_5) (F1.out 5); have k1_6 := cb (bl_next hbU hb) c1_6; have kf1_6 := fb (bl_next hbU hb) (lt_of_cell c1_6) (F1.out 6); have k1_7 := cb (bl_next hbU hb) c1_7; have kf1_7 := fb (bl_next hbU hb) (lt_of_cell c1_7) (F1.out 7); have HT := Lib.hid (TyB.below (w := W) ⟨_, G1.out⟩ (bl_next hbU hb)); clear hb)
    refine name_body ?_
    intro Z hZ
    have hkZ : Kept (fun k => k = w.heap.size + 1) w2 Z := by
      rw [hZ]
      iterate 8 (refine Kept.setCell ?_ _ _ (.inl rfl))
      exact Kept.refl _ _
    have r0 : Z.cell? ⟨w.heap.size + 1, 0, none⟩ = some (.string o.key.kind) := by rw [hZ]; go_simp
    have r1 : Z.cell? ⟨w.heap.size + 1, 1, none⟩ = some (.string o.key.space) := by rw [hZ]; go_simp
    have r2 : Z.cell? ⟨w.heap.size + 1, 2, none⟩ = some (.string o.key.name) := by rw [hZ]; go_simp
    have r3 : Z.cell? ⟨w.heap.size + 1, 3, none⟩ = some (.int .i64 o.ver) := by rw [hZ]; go_simp
    have r4 : Z.cell? ⟨w.heap.size + 1, 4, none⟩ = some (.string o.cls) := by rw [hZ]; go_simp
    have r5 : Z.cell? ⟨w.heap.size + 1, 5, none⟩ = some (.bool o.term) := by rw [hZ]; go_simp
    have r6 : Z.cell? ⟨w.heap.size + 1, 6, none⟩ = some (.bool o.best) := by rw [hZ]; go_simp
    have r7 : Z.cell? ⟨w.heap.size + 1, 7, none⟩ = some (.slice (some ⟨g, 0, none⟩) o.charge.length o.charge.length) := by rw [hZ]; go_simp
    clear hZ
    have hsz : w.heap.size ≤ w2.heap.size := HB2.out.size
    refine bodyPost_ret (v := .tuple #[.agg #[.string o.key.kind, .string o.key.space, .string o.key.name, .int .i64 o.ver, .string o.cls, .bool o.term, .bool o.best, .slice (some ⟨g, 0, none⟩) o.charge.length o.charge.length], .bool true]) (by simp [results, Try.results50, go_sem, r0, r1, r2, r3, r4, r5, r6, r7]) rfl ?_
    rw [HE.out.1, HE.out.2]
    refine ⟨_, rfl, (HF.out.mono HBU.out.size).kept hkZ (fun j e c hc => by rw [e] at hc; exact TyB.ne HT.out hc (by decide)), HB2.out.trans (hkZ.below hsz (fun j e => by omega))⟩
end Go.Proofs.Ythhfcambdmdgfaa
namespace Go.Proofs.Ythhfcambdmdgfaa
open Go.RowKit Go.Maps
set_option linter.unusedVariables false
set_option linter.unusedSimpArgs false
def verG (G : AM KS Int) (k : KS) : Int := (getA G k).getD 0
def knownC (fl : Int) (M : AM KS OX) (G : AM KS Int) (k : KS) : Int := max (max fl (objOf M k).ver) (verG G k)
section
variable {w w' : World} {base cp ob gb : Nat} {fl : Int} {M : AM KS OX} {G : AM KS Int}
theorem CacheAt.look (h : CacheAt w base cp ob gb fl M G) (k : KS) {kk : KeyD} (hk : k.1 = kk) :
    ∃ (q : ObjD) (A : Option Addr) (n c : Nat), q = objOf M k ∧ ∀ U, Below w.heap.size w U → (Instr.lookup 92 (.map (some ob)) (.agg #[.string kk.kind, .string kk.space, .string kk.name]) false).run Try.prog U = .ok (.agg #[.string q.key.kind, .string q.key.space, .string q.key.name, .int .i64 q.ver, .string q.cls, .bool q.term, .bool q.best, .slice A n c]) U := by
  subst hk
  have z := val_dmA kL_lit (fun p : OX => Value.agg (objX p).toArray) M k (.agg #[.string ⟨#[]⟩, .string ⟨#[]⟩, .string ⟨#[]⟩, .int .i64 0, .string ⟨#[]⟩, .bool false, .bool false, .slice none 0 0])
  cases hg : getA M k with
  | none =>
    refine ⟨zeroO, none, 0, 0, by unfold objOf; rw [hg]; rfl, fun U hb => ?_⟩
    have q := mv_look (h.objs.below hb) kS_keyed Try.underlying92 (zero_obj U) (kL_key k)
    rw [z, hg] at q; exact q
  | some p =>
    obtain ⟨o, so⟩ := p
    obtain ⟨g, hso⟩ := (h.resM _ (getA_mem hg)).1.form
    simp only at hso
    subst hso
    refine ⟨o, some ⟨g, 0, none⟩, o.charge.length, o.charge.length, by unfold objOf; rw [hg]; rfl, fun U hb => ?_⟩
    have q := mv_look (h.objs.below hb) kS_keyed Try.underlying92 (zero_obj U) (kL_key k)
    rw [z, hg] at q; exact q
theorem CacheAt.grave (h : CacheAt w base cp ob gb fl M G) (k : KS) {kk : KeyD} (hk : k.1 = kk) : ∀ U, Below w.heap.size w U → (Instr.lookup 96 (.map (some gb)) (.agg #[.string kk.kind, .string kk.space, .string kk.name]) false).run Try.prog U = .ok (.int .i64 (verG G k)) U := by
  subst hk
  intro U hb
  have q := mv_look (mv_below h.graves hb) kS_keyed Try.underlying96 (zero_i64 U) (kL_key k)
  rw [val_dmA kL_lit gV G k (.int .i64 0)] at q
  unfold verG
  cases hg : getA G k with
  | none => rw [hg] at q; exact q
  | some v => rw [hg] at q; exact q
end
theorem field_ver (w : World) (v0 v1 v2 v3 v4 v5 v6 v7 : Value) : (Instr.field 27 (.agg #[v0, v1, v2, v3, v4, v5, v6, v7]) 1).run Try.prog w = .ok v3 w := by kernel_rfl
set_option maxRecDepth 100000 in
set_option maxHeartbeats 8000000 in
theorem cknown_walk (w : World) {cp ob gb : Nat} {fl : Int} {kk : KeyD} {q : ObjD} {A : Option Addr} {n c : Nat} {vg kn : Int} (hc : w.heap[cp]? = some (.cells #[.map (some ob), .map (some gb), .int .i64 fl] 98))
    (hl1 : ∀ U, Below w.heap.size w U → (Instr.lookup 92 (.map (some ob)) (.agg #[.string kk.kind, .string kk.space, .string kk.name]) false).run Try.prog U = .ok (.agg #[.string q.key.kind, .string q.key.space, .string q.key.name, .int .i64 q.ver, .string q.cls, .bool q.term, .bool q.best, .slice A n c]) U)
    (hl2 : ∀ U, Below w.heap.size w U → (Instr.lookup 96 (.map (some gb)) (.agg #[.string kk.kind, .string kk.space, .string kk.name]) false).run Try.prog U = .ok (.int .i64 vg) U) (he : kn = max (max fl q.ver) vg) :
    Calls Try.prog 53 #[.pointer (some ⟨cp, 0, none⟩), .agg #[.string kk.kind, .string kk.space, .string kk.name]] w fun e w' => e = .returned (.int .i64 kn) ∧ Below w.heap.size w w' := by
  have hcp := blk_lt hc
  have m0 : w.cell? ⟨cp, 0, none⟩ = some (.map (some ob)) := blk_cell hc 0
  have m1 : w.cell? ⟨cp, 1, none⟩ = some (.map (some gb)) := blk_cell hc 1
  have m2 : w.cell? ⟨cp, 2, none⟩ = some (.int .i64 fl) := blk_cell hc 2
  have HL1 := Lib.hid hl1
  have HL2 := Lib.hid hl2
  have HE := Lib.hid he
  have hfv := fun (U : World) => field_ver U (.string q.key.kind) (.string q.key.space) (.string q.key.name) (.int .i64 q.ver) (.string q.cls) (.bool q.term) (.bool q.best) (.slice A n c)
  clear hc hl1 hl2 he
  go_enter Try.func53, Try.ntmps53
  go_upto_region 3 with fail
  first | with_reducible refine name_wp ?_ | with_reducible refine name_calls ?_
  intro W hWeq
  have g0 : W.heap[w.heap.size]? = some (.cells #[.string kk.kind, .string kk.space, .string kk.name] 24) := by rw [hWeq]; repeat (first | (with_reducible exact blk_newAt _ _ (by simp)) | with_reducible refine blk_drew ?_ | with_reducible refine blk_dN ?_ _ | with_reducible refine blk_old ?_ _)
  have hw : Below w.heap.size w W := by rw [hWeq]; repeat (first | with_reducible exact Below.refl _ _ | with_reducible refine Below.drew ?_ | with_reducible refine bl_dN ?_ _ | with_reducible refine Below.alloc ?_ (by simp <;> omega) _)
  clear hWeq
  have hz : w.heap.size + 1 ≤ W.heap.size := by have := blk_lt g0; omega
  have c0_0 : W.cell? ⟨w.heap.size, 0, none⟩ = some (.string kk.kind) := blk_cell g0 0
  have c0_1 : W.cell? ⟨w.heap.size, 1, none⟩ = some (.string kk.space) := blk_cell g0 1
  have c0_2 : W.cell? ⟨w.heap.size, 2, none⟩ = some (.string kk.name) := blk_cell g0 2
  have f0 : ∀ j, W.frozen? ⟨w.heap.size, j, none⟩ = false := blk_free g0
  have hB : Below W.heap.size W W := Below.refl _ _
  have G0 := Lib.hid g0; clear g0
  have F0 := Lib.hid f0; clear f0
  have Hw := Lib.hid hw; clear hw
  have m0 := cb Hw.out m0
  have m1 := cb Hw.out m1
  have m2 := cb Hw.out m2
  have hB := Below.refl W.heap.size W
  have hB := hB.drew
  refine region_seq (fun w' => Below W.heap.size W w') [(0, true), (1, true), (2, true), (3, true), (4, true), (5, true), (6, true), (7, true), (8, true), (9, true), (10, true), (11, true), (12, true), (13, true), (14, true), (15, true), (16, true), (17, true), (18, true)] (by kernel_rfl) (by kernel_rfl) (fun _ _ _ _ h => h) hB ?_
  try generalize World.drew _ = wS at hB ⊢
  refine seq_take (v := ?_) (a' := ?_) (some 7) rfl rfl (by rfl) ?_ ?_ ?_
  rotate_left; rotate_left
  · intro w' hS; go_simp; with_reducible rfl
  · simp only [Act.put, List.setIfInBounds_toArray, List.set_cons_zero, List.set_cons_succ]; rfl
  refine seq_take (v := ?_) (a' := ?_) (some 8) rfl rfl (by rfl) ?_ ?_ ?_
  rotate_left; rotate_left
  · intro w' hS; go_simp; with_reducible rfl
  · simp only [Act.put, List.setIfInBounds_toArray, List.set_cons_zero, List.set_cons_succ]; rfl
  refine seq_take (v := ?_) (a' := ?_) (some 9) rfl rfl (by rfl) ?_ ?_ ?_
  rotate_left; rotate_left
  · intro w' hS; go_simp; with_reducible rfl
  · simp only [Act.put, List.setIfInBounds_toArray, List.set_cons_zero, List.set_cons_succ]; rfl
  refine seq_take (v := ?_) (a' := ?_) (some 10) rfl rfl (by rfl) ?_ ?_ ?_
  rotate_left; rotate_left
  · intro w' hS; have q0 := cb hS m0; have q1 := cb hS m1; have q2 := cb hS m2; have q3 := cb hS c0_0; have q4 := cb hS c0_1; have q5 := cb hS c0_2; have hl1 := HL1.out _ (bl_from Hw.out hS); have hl2 := HL2.out _ (bl_from Hw.out hS); go_simp; with_reducible rfl
  · simp only [Act.put, List.setIfInBounds_toArray, List.set_cons_zero, List.set_cons_succ]; rfl
  refine seq_take (v := ?_) (a' := ?_) (some 11) rfl rfl (by rfl) ?_ ?_ ?_
  rotate_left; rotate_left
  · intro w' hS; go_simp; with_reducible rfl
  · simp only [Act.put, List.setIfInBounds_toArray, List.set_cons_zero, List.set_cons_succ]; rfl
  refine seq_take (v := ?_) (a' := ?_) (some 12) rfl rfl (by rfl) ?_ ?_ ?_
  rotate_left; rotate_left
  · intro w' hS; go_simp; with_reducible rfl
  · simp only [Act.put, List.setIfInBounds_toArray, List.set_cons_zero, List.set_cons_succ]; rfl
  refine seq_take (v := ?_) (a' := ?_) (some 13) rfl rfl (by rfl) ?_ ?_ ?_
  rotate_left; rotate_left
  · intro w' hS; go_simp; with_reducible rfl
  · simp only [Act.put, List.setIfInBounds_toArray, List.set_cons_zero, List.set_cons_succ]; rfl
  refine seq_take (v := ?_) (a' := ?_) (some 14) rfl rfl (by rfl) ?_ ?_ ?_
  rotate_left; rotate_left
  · intro w' hS; have q0 := cb hS m0; have q1 := cb hS m1; have q2 := cb hS m2; have q3 := cb hS c0_0; have q4 := cb hS c0_1; have q5 := cb hS c0_2; have hl1 := HL1.out _ (bl_from Hw.out hS); have hl2 := HL2.out _ (bl_from Hw.out hS); go_simp; with_reducible rfl
  · simp only [Act.put, List.setIfInBounds_toArray, List.set_cons_zero, List.set_cons_succ]; rfl
  refine seq_take (v := ?_) (a' := ?_) (some 15) rfl rfl (by rfl) ?_ ?_ ?_
  rotate_left; rotate_left
  · intro w' hS; have q0 := cb hS m0; have q1 := cb hS m1; have q2 := cb hS m2; have q3 := cb hS c0_0; have q4 := cb hS c0_1; have q5 := cb hS c0_2; have hl1 := HL1.out _ (bl_from Hw.out hS); have hl2 := HL2.out _ (bl_from Hw.out hS); go_simp; with_reducible rfl
  · simp only [Act.put, List.setIfInBounds_toArray, List.set_cons_zero, List.set_cons_succ]; rfl
  refine seq_take (v := ?_) (a' := ?_) (some 16) rfl rfl (by rfl) ?_ ?_ ?_
  rotate_left; rotate_left
  · intro w' hS; have q0 := cb hS m0; have q1 := cb hS m1; have q2 := cb hS m2; have q3 := cb hS c0_0; have q4 := cb hS c0_1; have q5 := cb hS c0_2; have hl1 := HL1.out _ (bl_from Hw.out hS); have hl2 := HL2.out _ (bl_from Hw.out hS); go_simp; with_reducible rfl
  · simp only [Act.put, List.setIfInBounds_toArray, List.set_cons_zero, List.set_cons_succ]; rfl
  refine seq_take (v := ?_) (a' := ?_) (some 17) rfl rfl (by rfl) ?_ ?_ ?_
  rotate_left; rotate_left
  · intro w' hS; go_simp; with_reducible rfl
  · simp only [Act.put, List.setIfInBounds_toArray, List.set_cons_zero, List.set_cons_succ]; rfl
  refine seq_take (v := ?_) (a' := ?_) (some 18) rfl rfl (by rfl) ?_ ?_ ?_
  rotate_left; rotate_left
  · intro w' hS; go_simp; with_reducible rfl
  · simp only [Act.put, List.setIfInBounds_toArray, List.set_cons_zero, List.set_cons_succ]; rfl
  refine seq_take (v := ?_) (a' := ?_) (some 19) rfl rfl (by rfl) ?_ ?_ ?_
  rotate_left; rotate_left
  · intro w' hS; go_simp; with_reducible rfl
  · simp only [Act.put, List.setIfInBounds_toArray, List.set_cons_zero, List.set_cons_succ]; rfl
  refine seq_take (v := ?_) (a' := ?_) (some 20) rfl rfl (by rfl) ?_ ?_ ?_
  rotate_left; rotate_left
  · intro w' hS; go_simp; with_reducible rfl
  · simp only [Act.put, List.setIfInBounds_toArray, List.set_cons_zero, List.set_cons_succ]; rfl
  refine seq_take (v := ?_) (a' := ?_) (some 21) rfl rfl (by rfl) ?_ ?_ ?_
  rotate_left; rotate_left
  · intro w' hS; have q0 := cb hS m0; have q1 := cb hS m1; have q2 := cb hS m2; have q3 := cb hS c0_0; have q4 := cb hS c0_1; have q5 := cb hS c0_2; have hl1 := HL1.out _ (bl_from Hw.out hS); have hl2 := HL2.out _ (bl_from Hw.out hS); go_simp; with_reducible rfl
  · simp only [Act.put, List.setIfInBounds_toArray, List.set_cons_zero, List.set_cons_succ]; rfl
  refine seq_take (v := ?_) (a' := ?_) (some 22) rfl rfl (by rfl) ?_ ?_ ?_
  rotate_left; rotate_left
  · intro w' hS; have q0 := cb hS m0; have q1 := cb hS m1; have q2 := cb hS m2; have q3 := cb hS c0_0; have q4 := cb hS c0_1; have q5 := cb hS c0_2; have hl1 := HL1.out _ (bl_from Hw.out hS); have hl2 := HL2.out _ (bl_from Hw.out hS); go_simp; with_reducible rfl
  · simp only [Act.put, List.setIfInBounds_toArray, List.set_cons_zero, List.set_cons_succ]; rfl
  refine seq_take (v := ?_) (a' := ?_) (some 23) rfl rfl (by rfl) ?_ ?_ ?_
  rotate_left; rotate_left
  · intro w' hS; have q0 := cb hS m0; have q1 := cb hS m1; have q2 := cb hS m2; have q3 := cb hS c0_0; have q4 := cb hS c0_1; have q5 := cb hS c0_2; have hl1 := HL1.out _ (bl_from Hw.out hS); have hl2 := HL2.out _ (bl_from Hw.out hS); go_simp; with_reducible rfl
  · simp only [Act.put, List.setIfInBounds_toArray, List.set_cons_zero, List.set_cons_succ]; rfl
  refine seq_take (v := ?_) (a' := ?_) (some 24) rfl rfl (by rfl) ?_ ?_ ?_
  rotate_left; rotate_left
  · intro w' hS; go_simp; with_reducible rfl
  · simp only [Act.put, List.setIfInBounds_toArray, List.set_cons_zero, List.set_cons_succ]; rfl
  refine seq_take (v := ?_) (a' := ?_) (some 4) rfl rfl (by rfl) ?_ ?_ ?_
  rotate_left; rotate_left
  · intro w' hS; go_simp; with_reducible rfl
  · simp only [Act.put, List.setIfInBounds_toArray, List.set_cons_zero, List.set_cons_succ]; rfl
  refine seq_done ?_
  go_wp2_with fail
  all_goals go_ret
  all_goals exact ⟨ret_int (by have := HE.out; omega), bl_from Hw.out hB⟩
theorem cknown_calls (w : World) {base cp ob gb : Nat} {fl : Int} {M : AM KS OX} {G : AM KS Int} (h : CacheAt w base cp ob gb fl M G) (k : KS) {kk : KeyD} (hk : k.1 = kk) :
    Calls Try.prog 53 #[.pointer (some ⟨cp, 0, none⟩), .agg #[.string kk.kind, .string kk.space, .string kk.name]] w fun e w' => e = .returned (.int .i64 (knownC fl M G k)) ∧ Below w.heap.size w w' := by
  obtain ⟨q, A, n, c, hqe, hl1⟩ := h.look k hk
  exact cknown_walk w h.cell hl1 (h.grave k hk) (by rw [hqe]; rfl)
def keyWide (k : KeyD) : Prop := k.kind.size ≤ maxLen ∧ k.space.size ≤ maxLen ∧ k.name.size ≤ maxLen
theorem kW_some {k : KeyD} (h : keyWide k) : ∃ l, keyOf Try.prog 24 (keyV k) = some l := by
  have hk : Try.prog.keyType 24 = true := by kernel_rfl
  have hc : Try.prog.cellsOf 24 = 3 := by kernel_rfl
  have hs : Try.prog.cellsOf 9 = 1 := by kernel_rfl
  obtain ⟨n, hn⟩ := kS_size
  obtain ⟨m1, m2, m3⟩ := h
  unfold keyOf
  rw [Try.underlying24]
  simp only [hk, kS_formed, Bool.and_self, if_true]
  rw [hn]
  simp [Program.keyLits, Try.underlying24, Try.underlying9, keyV, Value.cells, hc, hs, m1, m2, m3]
theorem kW_not {k : KeyD} (h : ¬ keySmall k) {l : Lit} (hl : keyOf Try.prog 24 (keyV k) = some l) (x : KS) : (kL x).sameKey l = false := by
  cases q : (kL x).sameKey l with
  | false => rfl
  | true =>
    have e := Go.WideAt.sameKey_eq q
    have h1 := kL_key x
    rw [e] at h1
    exact absurd (keyV_inj (kS_keyed.inj h1 hl)) (fun e => h (e ▸ x.2))
theorem val_not {β : Type} {ev : β → Value} {l : Lit} (h : ∀ x, (kL x).sameKey l = false) (M : AM KS β) (z : Value) : valAt (dmA kL ev M) l z = z := by
  unfold valAt dmA DataW.atKey
  simp only
  rw [List.find?_eq_none.2]
  intro x hx
  obtain ⟨q, _, rfl⟩ := List.mem_map.1 hx
  rw [h]; decide
theorem has_not {β : Type} {ev : β → Value} {l : Lit} (h : ∀ x, (kL x).sameKey l = false) (M : AM KS β) : Maps.has (dmA kL ev M) l = false := by
  show (M.map (fun p : KS × β => ((kL p.1, DataW.held (ev p.2)) : Lit × DataW Value))).any (fun p => p.1.sameKey l) = _
  rw [List.any_map, List.any_eq_false]
  intro q _
  show ¬ (kL q.1).sameKey l = true
  rw [h]; decide
open Classical in
noncomputable def knownK (fl : Int) (M : AM KS OX) (G : AM KS Int) (kk : KeyD) : Int := if h : keySmall kk then knownC fl M G ⟨kk, h⟩ else max (max fl 0) 0
open Classical in
noncomputable def objK (M : AM KS OX) (kk : KeyD) : ObjD := if h : keySmall kk then objOf M ⟨kk, h⟩ else zeroO
open Classical in
noncomputable def hasK (M : AM KS OX) (kk : KeyD) : Bool := if h : keySmall kk then hasA M ⟨kk, h⟩ else false
theorem cknownK_calls (w : World) {base cp ob gb : Nat} {fl : Int} {M : AM KS OX} {G : AM KS Int} (h : CacheAt w base cp ob gb fl M G) {kk : KeyD} (hk : keyWide kk) :
    Calls Try.prog 53 #[.pointer (some ⟨cp, 0, none⟩), .agg #[.string kk.kind, .string kk.space, .string kk.name]] w fun e w' => e = .returned (.int .i64 (knownK fl M G kk)) ∧ Below w.heap.size w w' := by
  unfold knownK
  by_cases hs : keySmall kk
  · rw [dif_pos hs]; exact cknown_calls w h ⟨kk, hs⟩ rfl
  · rw [dif_neg hs]
    obtain ⟨l, hl⟩ := kW_some hk
    have hn := kW_not hs hl
    exact cknown_walk (q := zeroO) (A := none) (n := 0) (c := 0) (vg := 0) w h.cell (fun U hb => by
      have q := mv_look (h.objs.below hb) kS_keyed Try.underlying92 (zero_obj U) hl
      rw [val_not hn] at q; exact q) (fun U hb => by
      have q := mv_look (mv_below h.graves hb) kS_keyed Try.underlying96 (zero_i64 U) hl
      rw [val_not hn] at q; exact q) rfl
theorem cgetK_calls (w : World) {base cp ob gb : Nat} {fl : Int} {M : AM KS OX} {G : AM KS Int} (h : CacheAt w base cp ob gb fl M G) (hS : ∀ q ∈ M, objSmall q.2.1) {kk : KeyD} (hk : keyWide kk) :
    Calls Try.prog 50 #[.pointer (some ⟨cp, 0, none⟩), .agg #[.string kk.kind, .string kk.space, .string kk.name]] w (GetOut w (objK M kk) (hasK M kk)) := by
  unfold objK hasK
  by_cases hs : keySmall kk
  · rw [dif_pos hs, dif_pos hs]; exact cget_calls w h hS ⟨kk, hs⟩
  · rw [dif_neg hs, dif_neg hs]
    obtain ⟨l, hl⟩ := kW_some hk
    have hn := kW_not hs hl
    exact cget_none w kk (blk_cell h.cell 0) (fun U hb => by
      have q := mv_look_ok (h.objs.below hb) kS_keyed Try.underlying92 (zero_obj U) hl
      rw [val_not hn, has_not hn] at q; exact q)
set_option maxRecDepth 100000 in
set_option maxHeartbeats 4000000 in
theorem cfloor_calls (w : World) {base cp ob gb : Nat} {fl : Int} {M : AM KS OX} {G : AM KS Int} (h : CacheAt w base cp ob gb fl M G) :
    Calls Try.prog 52 #[.pointer (some ⟨cp, 0, none⟩)] w fun e w' => e = .returned (.int .i64 fl) ∧ Below w.heap.size w w' := by
  have m2 : w.cell? ⟨cp, 2, none⟩ = some (.int .i64 fl) := blk_cell h.cell 2
  clear h
  have hB := Below.refl w.heap.size w
  go_enter Try.func52, Try.ntmps52
  go_wp2_with fail
  go_ret
  exact ⟨rfl, hB⟩
set_option maxRecDepth 100000 in
set_option maxHeartbeats 4000000 in
theorem cgraves_calls (w : World) {base cp ob gb : Nat} {fl : Int} {M : AM KS OX} {G : AM KS Int} (h : CacheAt w base cp ob gb fl M G) (hG : G.length ≤ 1000000) :
    Calls Try.prog 49 #[.pointer (some ⟨cp, 0, none⟩)] w (SrtK w G) := by
  have m1 : w.cell? ⟨cp, 1, none⟩ = some (.map (some gb)) := blk_cell h.cell 1
  have HGR := Lib.hid (fun (U : World) (hb : Below w.heap.size w U) => mv_below h.graves hb)
  have HL := Lib.hid hG
  clear h hG
  go_enter Try.func49, Try.ntmps49
  go_wp2_with (first | (go_at_call 79; refine (keysG_calls w (some gb)).mono ?_; rintro e w1 ⟨rfl, hc, hb⟩; have HS := Lib.hid (keysG_stops 4 (by decide) w.heap.size gb _ G gV w1 hc (HGR.out w1 hb)); have HB1 := Lib.hid hb; clear hc hb) | (go_at_call 76; refine (sortedFunc_calls w1 trivial (enters_of Try.func103 (by kernel_rfl) rfl) HS.out HL.out).mono ?_; rintro e w2 ⟨A, c, ks, rfl, hr, ha, hs, hb⟩; have HF := Lib.hid (And.intro hr (And.intro ha (And.intro hs hb))); clear hr ha hs hb))
  go_ret
  obtain ⟨hr, ha, hs, hb⟩ := HF.out
  exact ⟨A, c, ks, rfl, rw_mono hr HB1.out.size, ha, hs, bl_from HB1.out hb⟩
end Go.Proofs.Ythhfcambdmdgfaa

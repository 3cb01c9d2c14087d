import Derived.Test.YteomicjjaajblaaVcg
import Derived.Lib.AppendZerosOnto
import Derived.Lib.SliceRun
import Derived.Lib.Walk
namespace Go.Proofs.Yteomicjjaajblaa
open Go.RowKit Go.Shelf Go.Maps
set_option linter.unusedVariables false
set_option linter.unusedSimpArgs false
/-! ### Concat -/
theorem grow_mk {w : World} {b g cap sz : Nat} {e : TypeId} {cs : Array Value} (hg : b ≤ g) (h : w.heap[g]? = some (.cells cs e)) (hc : cap ≤ maxLen) (hs : cs.size = cap * sz) : w.ownsRow b e sz (.slice (some ⟨g, 0, none⟩) 0 cap) 0 [] :=
  ⟨by simp, .inr ⟨g, cap, cs, rfl, hg, h, Nat.zero_le _, hc, hs, by simp⟩⟩
set_option maxRecDepth 100000 in
set_option maxHeartbeats 4000000 in
theorem grow_calls (n : Nat) (w : World) (hn : n ≤ 1000000) :
    Calls Try.prog 94 #[.slice none 0 0, .int .i64 n] w fun e w' => ∃ x, e = .returned x ∧ w'.ownsRow w.heap.size 64 3 x 0 [] ∧ Below w.heap.size w w' := by
  have hB := Below.refl w.heap.size w
  rcases Nat.eq_zero_or_pos n with h0 | h0
  · subst h0
    go_enter Try.func94, Try.ntmps94
    go_wp2_with fail
    go_ret
    exact ⟨_, rfl, World.ownsRow_nil _ _ _ _, hB⟩
  · obtain ⟨i0, hi, hz0, hz1, hz2⟩ := info_parts info_entry
    have hrz : ∀ ty, (Builtin.append_ #[30, 3] ty #[.slice none 0 0, .int .i64 (n : Int)]).run Try.prog w =
        .ok (.slice (some ⟨w.heap.size, 0, none⟩) n (grownCap w n 0 64)) (w.drew.alloc (.cells (#[] ++ Builtin.zeroCells (Value.agg #[.string ⟨#[]⟩, .int .i64 0, .int .u64 0]).cells n ++ Builtin.zeroCells (Value.agg #[.string ⟨#[]⟩, .int .i64 0, .int .u64 0]).cells (grownCap w n 0 64 - n)) 64)) := fun ty => by
      have h := Lib.run_append_grow_zeros w 30 3 ty 64 i0 _ .i64 .i64 Try.underlying30 Try.underlying3 hi hz0 none 0 0 [] (run_firstCells_none w.drew i0.size 0 0 0) n h0 (by rw [hz1]; decide) (by omega) (by omega) (by rw [hz2]; omega)
        (by rw [Nat.zero_add]; exact growslice_fits h0 (by rw [hz2]; omega))
      simp only [Nat.zero_add] at h
      exact h
    have hG : n ≤ grownCap w n 0 64 := grownCap_ge w _ _ _
    have hGm : grownCap w n 0 64 ≤ maxLen := grownCap_le_maxLen w n 0 64 (by unfold maxLen; omega)
    obtain ⟨G, hGe⟩ : ∃ G, G = grownCap w n 0 64 := ⟨_, rfl⟩
    rw [← hGe] at hrz hG hGm
    have hG63 : G ≤ 9223372036854775807 := by unfold maxLen at hGm; omega
    have HGM := Lib.hid hGm
    have hnI : (0 : Int) < n := by omega
    clear hGe hGm hi hz0 hz1 hz2
    go_enter Try.func94, Try.ntmps94
    go_wp2_with (at_builtin; refine Lib.wpList_append_run _ rfl _ _ _ _ rfl _ _ rfl rfl _ _ (hrz _) ?_)
    all_goals
      go_ret
      refine ⟨_, rfl, grow_mk (Nat.le_refl _) (blk_drew (blk_new w _)) HGM.out ?_, (Below.refl w.heap.size w).drew.alloc (Nat.le_refl _) _⟩
      simp [Builtin.zeroCells, Value.cells]
      omega
theorem vecC_one (l : Vec) : ∀ u ∈ vecC l, u.oneCell' = true := by
  intro u hu; unfold vecC at hu; obtain ⟨p, _, h⟩ := List.mem_flatMap.1 hu
  simp only [encE, List.mem_cons, List.not_mem_nil, or_false] at h
  rcases h with rfl | rfl | rfl <;> rfl
theorem app_vecs {ops : Array Oper} {rest : List Oper} {o : Oper} {a : Act} {Q : Exit → Act → World → Prop} {w : World} (hgd : o.guard = none) (s x : Operand)
    (ho : o.op = .call { callee := .builtin .append, args := #[s, x], argTypes := #[30, 30] })
    (base : Nat) (v : Value) (l m : Vec) (hs : a.eval s = v) (hown : w.ownsRow base 64 3 v l.length (vecC l)) (u : Value) (hx : a.eval x = u) (hr : VecS w u m)
    (hbase : base ≤ w.heap.size) (hlen : l.length + m.length ≤ 100000000)
    (h : ∀ A cap w1, w1.ownsRow base 64 3 (.slice A (l ++ m).length cap) (l ++ m).length (vecC (l ++ m)) → Kept (fun k => v.ownBlock = some k) w w1 → wpList Try.prog ops Q rest (a.put o.dst (.slice A (l ++ m).length cap)) w1) :
    wpList Try.prog ops Q (o :: rest) a w := by
  obtain ⟨i0, hi, hz0, hz1, hz2⟩ := info_parts info_entry
  refine wpList_plain hgd fun _ hK => app_all s x _ ho base _ i0 _ 3 32 Try.underlying30 hi hz0 hz1 hz2 rfl (by decide) v l.length (vecC l) hs hown u m.length (vecC m) hx hr.1 (vecC_one m) hbase hlen (by decide) ?_
  intro v' w1 h1 h2
  have e : vecC l ++ vecC m = vecC (l ++ m) := by simp [vecC]
  rw [e, ← List.length_append] at h1
  obtain ⟨A, cap, rfl⟩ := rw_form h1
  exact hK _ _ (h A cap w1 h1 h2)
def lensTo (a b : Nat) (j : Nat) : Nat := if j = 0 then 0 else if j = 1 then a else a + b
def catTo (a b : Vec) (j : Nat) : Vec := if j = 0 then [] else if j = 1 then a else a ++ b
set_option maxRecDepth 100000 in
set_option maxHeartbeats 8000000 in
theorem concat_calls (w : World) {g : Nat} {xa xb : Value} {a b : Vec} (hg : w.heap[g]? = some (.cells #[xa, xb] 30)) (ha : VecS w xa a) (hb : VecS w xb b) (hl : a.length ≤ 100000 ∧ b.length ≤ 100000) :
    Calls Try.prog 83 #[.slice (some ⟨g, 0, none⟩) 2 2] w fun e w' => ∃ x, e = .returned x ∧ w'.ownsRow w.heap.size 64 3 x (a ++ b).length (vecC (a ++ b)) ∧ Below w.heap.size w w' := by
  have HA := Lib.hid ha; have HB := Lib.hid hb
  obtain ⟨aa, ca, rfl⟩ := ha.form
  obtain ⟨ab, cb', rfl⟩ := hb.form
  clear ha hb
  obtain ⟨hl1, hl2⟩ := hl
  have c0 : w.cell? ⟨g, 0, none⟩ = some (.slice aa a.length ca) := blk_cell hg 0
  have c1 : w.cell? ⟨g, 1, none⟩ = some (.slice ab b.length cb') := blk_cell hg 1
  have C0 := Lib.hid c0; have C1 := Lib.hid c1
  clear c0 c1 hg
  have hB := Below.refl w.heap.size w
  go_enter Try.func83, Try.ntmps83
  go_wp2_with fail
  go_loopw [3, 11] (fun s i wr => ∃ j : Nat, (i = .int .i64 j ∧ s = .int .i64 (lensTo a.length b.length j)) ∧ j ≤ 2 ∧ Below w.heap.size w wr) (fun _ i _ => 2 - (intOf i).toNat)
  case atStart => exact ⟨0, ⟨rfl, rfl⟩, by decide, hB⟩
  case round =>
    clear hB
    obtain ⟨j, ⟨rfl, rfl⟩, hj, hB⟩ := hrel
    have hcase : j = 0 ∨ j = 1 ∨ j = 2 := by omega
    rcases hcase with rfl | rfl | rfl
    · have c0 := cb hB C0.out
      rw [show lensTo a.length b.length 0 = 0 from rfl]
      go_wp2_with fail
      go_roundw
      case rel => exact ⟨1, ⟨rfl, by simp [lensTo]⟩, by decide, hB⟩
      case measure => simp [intOf]
    · have c1 := cb hB C1.out
      rw [show lensTo a.length b.length 1 = a.length from rfl]
      go_wp2_with fail
      go_roundw
      case rel => exact ⟨2, ⟨rfl, by simp [lensTo]⟩, by decide, hB⟩
      case measure => simp [intOf]
    · rw [show lensTo a.length b.length 2 = a.length + b.length from rfl]
      go_wp2_with fail
      refine (grow_calls (a.length + b.length) _ (by omega)).mono ?_
      rintro e w2 ⟨x, rfl, hrow, hb⟩
      obtain ⟨ax, cx, rfl⟩ := rw_form hrow
      have HB2 := Lib.hid (bl_next hB hb)
      have HR0 := Lib.hid (show w2.ownsRow w.heap.size 64 3 (.slice ax 0 cx) (catTo a b 0).length (vecC (catTo a b 0)) from rw_mono hrow hB.size)
      clear hB hb hrow
      go_wp2_with fail
      go_loopw [6, 27] (fun v i wr => ∃ (j : Nat) (A : Option Addr) (cap : Nat), (i = .int .i64 j ∧ v = .slice A (catTo a b j).length cap) ∧ j ≤ 2 ∧ Hid (wr.ownsRow w.heap.size 64 3 (.slice A (catTo a b j).length cap) (catTo a b j).length (vecC (catTo a b j))) ∧ Hid (Below w.heap.size w wr)) (fun _ i _ => 2 - (intOf i).toNat)
      case atStart => exact ⟨0, ax, cx, ⟨rfl, rfl⟩, by decide, HR0, HB2⟩
      case round =>
        clear HR0 HB2
        obtain ⟨j, A, cap, ⟨rfl, rfl⟩, hj, HR, HBr⟩ := hrel
        have hcase : j = 0 ∨ j = 1 ∨ j = 2 := by omega
        rcases hcase with rfl | rfl | rfl
        · have c0 := cb HBr.out C0.out
          go_wp2_with (at_builtin; refine app_vecs rfl (.tmp 31) (.tmp 32) rfl w.heap.size _ (catTo a b 0) a rfl HR.out _ rfl (HA.out.below HBr.out) HBr.out.size (by simp [catTo]; omega) ?_; intro A' cap' w3 hown' hk')
          have HR1 := Lib.hid hown'
          have HB1 := Lib.hid (HBr.out.trans (hk'.below (B := w.heap.size) HBr.out.size (fun q hq => (rw_type HR.out hq).1)))
          clear hown' hk'
          go_roundw
          case rel => exact ⟨1, A', cap', ⟨rfl, by simp [catTo]⟩, by decide, HR1, HB1⟩
          case measure => simp [intOf]
        · have c1 := cb HBr.out C1.out
          go_wp2_with (at_builtin; refine app_vecs rfl (.tmp 31) (.tmp 32) rfl w.heap.size _ (catTo a b 1) b rfl HR.out _ rfl (HB.out.below HBr.out) HBr.out.size (by simp [catTo]; omega) ?_; intro A' cap' w3 hown' hk')
          have HR1 := Lib.hid hown'
          have HB1 := Lib.hid (HBr.out.trans (hk'.below (B := w.heap.size) HBr.out.size (fun q hq => (rw_type HR.out hq).1)))
          clear hown' hk'
          go_roundw
          case rel => exact ⟨2, A', cap', ⟨rfl, by simp [catTo]⟩, by decide, HR1, HB1⟩
          case measure => simp [intOf]
        · go_wp2_with fail
          go_ret
          exact ⟨_, rfl, HR.out, HBr.out⟩
end Go.Proofs.Yteomicjjaajblaa

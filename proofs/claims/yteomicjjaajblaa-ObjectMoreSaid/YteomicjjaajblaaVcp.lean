import Derived.Test.YteomicjjaajblaaVck
import Derived.Test.YteomicjjaajblaaWidf
import Derived.Test.YteomicjjaajblaaStr0
namespace Go.Proofs.Yteomicjjaajblaa
open Go.RowKit Go.Shelf Go.Maps
set_option linter.unusedVariables false
set_option linter.unusedSimpArgs false
def textE (p : ByteArray × Int) : ByteArray := p.1 ++ ⟨#[61]⟩ ++ ⟨(Lib.itoa p.2).toArray⟩
def textV (v : Vec) : ByteArray := if rightV v then ⟨(Lib.join ((v.map textE).map (·.data.toList)) [44]).toArray⟩ else ⟨#[]⟩
theorem itoa_wide {x : Int} (h : wIn x = true) : (Lib.itoa x).length ≤ 41 := by
  simp only [wIn, Bool.and_eq_true, decide_eq_true_eq] at h
  unfold whi at h
  unfold Lib.itoa
  split
  · have := dec_len 39 x.natAbs (by omega)
    simp; omega
  · have := dec_len 39 x.toNat (by omega)
    omega
theorem textE_size {p : ByteArray × Int} (h : rightB p.1 = true) (hi : wIn p.2 = true) : (textE p).size ≤ 66 := by
  have h1 := right_size h
  have h2 := itoa_wide hi
  unfold textE
  rw [ByteArray.size_append, ByteArray.size_append]
  have e1 : (⟨#[61]⟩ : ByteArray).size = 1 := rfl
  have e2 : (⟨(Lib.itoa p.2).toArray⟩ : ByteArray).size = (Lib.itoa p.2).length := by show (Lib.itoa p.2).toArray.size = _; simp
  omega
theorem join_size {l : List ByteArray} {c : UInt8} {m : Nat} (h : ∀ s ∈ l, s.size ≤ m) : (Lib.join (l.map (·.data.toList)) [c]).length ≤ l.length * (m + 1) := by
  cases l with
  | nil => exact Nat.zero_le _
  | cons a r =>
    rw [List.map_cons, Lib.join_length]
    have hl : ∀ (r : List ByteArray), (∀ s ∈ r, s.size ≤ m) → Lib.lens (r.map (·.data.toList)) ≤ r.length * m := by
      intro r hr
      induction r with
      | nil => exact Nat.zero_le _
      | cons b t ih =>
        have h1 := hr b (List.mem_cons_self ..)
        have h2 := ih fun s hs => hr s (List.mem_cons_of_mem _ hs)
        have h3 : Lib.lens ((b :: t).map (·.data.toList)) = b.data.toList.length + Lib.lens (t.map (·.data.toList)) := by simp [Lib.lens]
        have h4 : b.data.toList.length = b.size := by simp
        rw [h3, h4, List.length_cons, Nat.add_mul]
        omega
    have := hl (a :: r) h
    rw [List.map_cons] at this
    have e1 : [c].length = 1 := rfl
    have e2 : (a :: r).length = r.length + 1 := rfl
    rw [e2] at this ⊢
    rw [List.length_map, e1, Nat.mul_add, Nat.one_mul]
    omega
theorem app_str_at {o : Oper} {a : Act} {K : Act → World → Prop} {Q : Exit → Act → World → Prop} {w : World} (s x : Operand)
    (ho : o.op = .call { callee := .builtin .append, args := #[s, x], argTypes := #[80, 80] })
    (base : Nat) {tb : TypeId} (v : Value) (n : Nat) (l : List ByteArray) (u : ByteArray) (hs : a.eval s = v) (hown : w.ownsRow base 9 1 v n (strC l)) (g0 c : Nat) (hx : a.eval x = .slice (some ⟨g0, 0, none⟩) 1 c)
    (hcells : w.heap[g0]? = some (.cells #[.string u] tb)) (hbase : base ≤ w.heap.size) (hlen : n + 1 ≤ 100000000)
    (h : ∀ g cap w1, w1.ownsRow base 9 1 (.slice (some ⟨g, 0, none⟩) (n + 1) cap) (n + 1) (strC (l ++ [u])) → Kept (fun k => v.ownBlock = some k) w w1 → K (a.put o.dst (.slice (some ⟨g, 0, none⟩) (n + 1) cap)) w1) : o.wp Try.prog a w K Q := by
  obtain ⟨i0, hi, hz0, hz1, hz2⟩ := info_parts info_string
  refine app_rw_at s x _ ho base _ i0 _ 1 16 Try.underlying80 hi hz0 hz1 hz2 rfl (by decide) v n (strC l) [.string u] hs hown g0 c hx hcells rfl (by simp [Value.oneCell']) hbase hlen (by decide) ?_
  intro g cap w1 h1 h2 h3
  refine h g cap w1 ?_ h2
  rw [show strC (l ++ [u]) = strC l ++ [.string u] by simp [strC]]
  exact h1
theorem row_strs {w : World} {base g cap : Nat} {l : List ByteArray} (h : w.ownsRow base 9 1 (.slice (some ⟨g, 0, none⟩) l.length cap) l.length (strC l)) :
    (∀ (j : Nat) x, l[j]? = some x → w.cell? ⟨g, 0 + j, none⟩ = some (.string x)) ∧ g < w.heap.size ∧ l.length ≤ cap := by
  refine ⟨fun j x hx => ?_, (rw_cells h).2.1, ?_⟩
  · have hj : j < l.length := (List.getElem?_eq_some_iff.1 hx).1
    have hv : l[j]'hj = x := (List.getElem?_eq_some_iff.1 hx).2
    rw [Nat.zero_add, (rw_cells h).2.2.1 j (by omega), strC_getD hj, hv]
  · rcases h.2 with ⟨h9, _⟩ | ⟨g', cap', cur, h9, _, _, hc, _⟩
    · cases h9
    · cases h9; exact hc
set_option maxRecDepth 100000 in
set_option maxHeartbeats 2000000 in
theorem vtext_calls (w : World) {x : Value} {v : Vec} (h : VecS w x v) (hl : v.length ≤ 1000000) (hs : ∀ p ∈ v, p.1.size ≤ 1000000) :
    Calls Try.prog 37 #[x] w fun e w' => e = .returned (.string (textV v)) ∧ Below w.heap.size w w' := by
  have hB := Below.refl w.heap.size w
  have H := Lib.hid h
  have HR := Lib.hid (fun (W : World) (hb : Below w.heap.size w W) => vright_calls W (h.below hb) hl hs)
  have HWI := Lib.hid h.2
  obtain ⟨ax, cx, rfl⟩ := h.form
  clear h hs
  go_enter Try.func37, Try.ntmps37
  cases hr : rightV v with
  | false =>
    have HRE := Lib.hid hr
    have HE := Lib.hid (show textV v = ⟨#[]⟩ by unfold textV; rw [hr]; rfl)
    clear hr
    go_wp2_with (go_at_call 19; refine (HR.out _ hB).mono ?_; rintro e w' ⟨rfl, hb⟩; rw [HRE.out]; have hB := bl_next hB hb; clear hb)
    go_ret
    exact ⟨ret_str HE.out.symm, hB⟩
  | true =>
    have HRE := Lib.hid hr
    have HE := Lib.hid (show textV v = ⟨(Lib.join ((v.map textE).map (·.data.toList)) [44]).toArray⟩ by unfold textV; rw [hr]; rfl)
    have HN := Lib.hid (rightV_spec hr).2
    clear hr
    go_upto_region 4 with (go_at_call 19; refine (HR.out _ hB).mono ?_; rintro e w' ⟨rfl, hb⟩; rw [HRE.out]; have hB := bl_next hB hb; clear hb)
    obtain ⟨W, rfl⟩ : ∃ W : World, W = w' := ⟨_, rfl⟩
    have HW := Lib.hid (H.out.below hB)
    have HBW := Lib.hid hB
    have hWw := hB.size
    clear hB
    go_wp2_with fail
    go_loopw [3, 11] (fun y i wr => ∃ k : Nat, i = .int .i64 k ∧ k ≤ v.length ∧ Hid (wr.ownsRow W.heap.size 9 1 y k (strC ((v.take k).map textE))) ∧ Hid (Below W.heap.size W wr)) (fun _ i _ => v.length - (intOf i).toNat)
    case atStart => exact ⟨0, rfl, Nat.zero_le _, Lib.hid (World.ownsRow_nil _ _ _ _), Lib.hid (Below.refl _ _)⟩
    case round =>
      rename_i y _ _
      obtain ⟨k, rfl, hk, RX, HBr⟩ := hrel
      by_cases hkl : k < v.length
      · have hkI : (k : Int) < v.length := by omega
        obtain ⟨b, o, c, he, q0, q1, q2, hin⟩ := HW.out.at' hkl
        cases he
        have q0 := cb HBr.out q0; have q1 := cb HBr.out q1; have q2 := cb HBr.out q2
        have hnm := (HN.out _ (List.getElem_mem hkl)).1
        have HSTEP := Lib.hid (show (v.take (k + 1)).map textE = (v.take k).map textE ++ [textE (v[k]'hkl)] by rw [List.take_succ_eq_append_getElem hkl, List.map_append]; rfl)
        obtain ⟨p, hp⟩ : ∃ p, v[k]'hkl = p := ⟨_, rfl⟩
        rw [hp] at q0 q1 q2 hin hnm HSTEP
        clear hp
        have hnz := right_size hnm
        have hdz := itoa_wide hin
        obtain ⟨D, hD⟩ : ∃ D : ByteArray, (⟨(Lib.itoa p.2).toArray⟩ : ByteArray) = D := ⟨_, rfl⟩
        have hDz : D.size ≤ 41 := by rw [← hD]; show (Lib.itoa p.2).toArray.size ≤ 41; simpa using hdz
        rw [show textE p = p.1 ++ ⟨#[61]⟩ ++ D by rw [← hD]; rfl] at HSTEP
        have HD := Lib.hid hD
        clear hdz hD
        have hS1 : ¬ (9223372036854775807 < p.1.size + 1) := by omega
        have hS2 : ¬ (9223372036854775807 < p.1.size + 1 + D.size) := by omega
        obtain ⟨l0, hl0⟩ : ∃ l, (v.take k).map textE = l := ⟨_, rfl⟩
        rw [hl0] at RX HSTEP
        clear hl0
        obtain ⟨V, rfl⟩ : ∃ V : World, V = wr := ⟨_, rfl⟩
        have hVW := HBr.out.size
        obtain ⟨ay, cy, hy⟩ := rw_form RX.out
        subst hy
        go_upto_region 7 with fail
        first | with_reducible refine name_wp ?_ | with_reducible refine name_calls ?_
        intro U hU
        have hw9 : Below V.heap.size V U := by rw [hU]; exact (Below.refl V.heap.size V).alloc (Nat.le_refl _) _
        have d0 : U.cell? ⟨V.heap.size, 0, none⟩ = some (.string p.1) := by rw [hU]; exact blk_cell (blk_new V _) 0
        have d1 : U.cell? ⟨V.heap.size, 1, none⟩ = some (.int .i64 (whi p.2)) := by rw [hU]; exact blk_cell (blk_new V _) 1
        have d2 : U.cell? ⟨V.heap.size, 2, none⟩ = some (.int .u64 (wlo p.2)) := by rw [hU]; exact blk_cell (blk_new V _) 2
        clear hU
        have hB := Below.refl U.heap.size U
        have RU := Lib.hid (rw_below RX.out hw9)
        have HBU := Lib.hid (bl_next HBr.out hw9)
        have hUV := hw9.size
        clear q0 q1 q2 hw9
        have hB := hB.drew
        refine region_seqM (fun w' => Below U.heap.size U w') 9 [(0, 1), (1, 1), (2, 1), (3, 1), (4, 1), (5, 1), (6, 0), (7, 1), (8, 0), (9, 0), (10, 2)] (by kernel_rfl) (by kernel_rfl) (fun _ _ _ _ h => h) hB ?_
        try generalize World.drew _ = wS at hB ⊢
        refine sm_take (v := ?_) (a' := ?_) (some 15) rfl rfl (by rfl) ?_ ?_ ?_
        rotate_left; rotate_left
        · intro w' hS; go_simp; with_reducible rfl
        · simp only [Act.put, List.setIfInBounds_toArray, List.set_cons_zero, List.set_cons_succ]; rfl
        refine sm_take (v := ?_) (a' := ?_) (some 16) rfl rfl (by rfl) ?_ ?_ ?_
        rotate_left; rotate_left
        · intro w' hS; go_simp; with_reducible rfl
        · simp only [Act.put, List.setIfInBounds_toArray, List.set_cons_zero, List.set_cons_succ]; rfl
        refine sm_take (v := ?_) (a' := ?_) (some 17) rfl rfl (by rfl) ?_ ?_ ?_
        rotate_left; rotate_left
        · intro w' hS; have p0 := cb hS d0; have p1 := cb hS d1; have p2 := cb hS d2; go_simp; with_reducible rfl
        · simp only [Act.put, List.setIfInBounds_toArray, List.set_cons_zero, List.set_cons_succ]; rfl
        refine sm_take (v := ?_) (a' := ?_) (some 18) rfl rfl (by rfl) ?_ ?_ ?_
        rotate_left; rotate_left
        · intro w' hS; go_simp; with_reducible rfl
        · simp only [Act.put, List.setIfInBounds_toArray, List.set_cons_zero, List.set_cons_succ]; rfl
        refine sm_take (v := ?_) (a' := ?_) (some 19) rfl rfl (by rfl) ?_ ?_ ?_
        rotate_left; rotate_left
        · intro w' hS; go_simp; with_reducible rfl
        · simp only [Act.put, List.setIfInBounds_toArray, List.set_cons_zero, List.set_cons_succ]; rfl
        refine sm_take (v := ?_) (a' := ?_) (some 20) rfl rfl (by rfl) ?_ ?_ ?_
        rotate_left; rotate_left
        · intro w' hS; have p0 := cb hS d0; have p1 := cb hS d1; have p2 := cb hS d2; go_simp; with_reducible rfl
        · simp only [Act.put, List.setIfInBounds_toArray, List.set_cons_zero, List.set_cons_succ]; rfl
        refine sm_call (args := ?_) Try.func59 (by kernel_rfl) rfl (some 21) rfl rfl (by rfl) rfl rfl ?_ ?_
        rotate_left
        · simp only [List.map_toArray, List.map_cons, List.map_nil]; go_simp; rfl
        with_reducible refine (wtext_calls _ _ _ (WOk.of_in hin)).mono ?_
        rintro e w' ⟨rfl, hb⟩
        rw [wval_of, HD.out]
        refine ⟨_, rfl, .inr (bl_next (by repeat (first | with_reducible exact hB | refine Below.alloc ?_ (by have := hB.size; simp; omega) _ | refine bl_dN ?_ _ | refine Below.drew ?_ | refine Below.setCell ?_ (by have := hB.size; simp; omega) _)) hb), ?_⟩
        have hB := bl_next (by repeat (first | with_reducible exact hB | refine Below.alloc ?_ (by have := hB.size; simp; omega) _ | refine bl_dN ?_ _ | refine Below.drew ?_ | refine Below.setCell ?_ (by have := hB.size; simp; omega) _)) hb; clear hb
        simp only [Act.put, List.setIfInBounds_toArray, List.set_cons_zero, List.set_cons_succ]
        refine sm_take (v := ?_) (a' := ?_) (some 22) rfl rfl (by rfl) ?_ ?_ ?_
        rotate_left; rotate_left
        · intro w' hS; go_simp; with_reducible rfl
        · simp only [Act.put, List.setIfInBounds_toArray, List.set_cons_zero, List.set_cons_succ]; rfl
        refine sm_op (some 23) rfl rfl (by rfl) ?_
        apply Exists.intro; apply Exists.intro; apply And.intro
        · go_simp; first | exact ⟨rfl, rfl⟩ | rfl
        apply Exists.intro; apply And.intro
        · simp only [Act.put, List.setIfInBounds_toArray, List.set_cons_zero, List.set_cons_succ]; rfl
        apply And.intro
        · exact .inr (by repeat (first | with_reducible exact hB | refine Below.alloc ?_ (by have := hB.size; simp; omega) _ | refine bl_dN ?_ _ | refine Below.drew ?_ | refine Below.setCell ?_ (by have := hB.size; simp; omega) _))
        refine sm_law rfl (by rfl) ?_
        refine app_str_at (.tmp 15) (.tmp 23) rfl W.heap.size _ k l0 (p.1 ++ ⟨#[61]⟩ ++ D) rfl (World.ownsRow.alloc (rw_below RU.out hB) _) _ 1 rfl (blk_new _ _) (by have := hB.size; simp; omega) (by omega) ?_
        intro g3 cap3 w3 hown3 hk3
        refine ⟨.inl rfl, ?_⟩
        simp only [Act.put, List.setIfInBounds_toArray, List.set_cons_zero, List.set_cons_succ]
        refine sm_free (v := ?_) (a' := ?_) (some 3) rfl rfl (by rfl) ?_ ?_ ?_
        rotate_left; rotate_left
        · intro w'; go_simp; with_reducible rfl
        · simp only [Act.put, List.setIfInBounds_toArray, List.set_cons_zero, List.set_cons_succ]; rfl
        refine sm_done ?_
        have hB3 := Lib.hid (((bl_next HBU.out hB).alloc (by have := hB.size; omega) _).trans (hk3.below (B := W.heap.size) (by have := hB.size; simp; omega) (fun q hq => (rw_type RU.out hq).1)))
        have RX3 := Lib.hid hown3
        clear hown3 hk3 hB
        go_wp2_with fail
        go_roundw
        case rel => exact ⟨k + 1, by simp, by omega, by rw [HSTEP.out]; exact RX3, hB3⟩
        case measure => simp [intOf]; omega
      · obtain rfl : k = v.length := by omega
        have hR := RX.out
        rw [List.take_length] at hR
        obtain ⟨ay, cy, rfl⟩ := rw_form hR
        have HROW := Lib.hid hR
        clear hR RX
        by_cases h0 : v = []
        · subst h0
          go_wp2_with (go_at_call 60; refine (Try.strings_Join_none _ _ _ _).mono ?_; rintro e w' ⟨rfl, rfl⟩)
          go_ret
          exact ⟨ret_str (by rw [HE.out]; rfl), HBW.out.trans (HBr.out.mono hWw)⟩
        · have h1 : 0 < v.length := List.length_pos_iff.2 h0
          obtain ⟨g, cap, hgc⟩ := rw_pos HROW.out h1
          cases hgc
          have hll : (v.map textE).length = v.length := by simp
          have hcs := row_strs (l := v.map textE) (by rw [hll]; exact HROW.out)
          have HCELL := Lib.hid hcs.1; have HGL := Lib.hid hcs.2.1; have HCAP := Lib.hid hcs.2.2
          have hjs := Lib.hid (join_size (l := v.map textE) (c := 44) (m := 66) (fun s hs => by obtain ⟨p, hp, rfl⟩ := List.mem_map.1 hs; exact textE_size (HN.out p hp).1 (HWI.out p hp)))
          have HJ := Lib.hid (Try.strings_Join g 0 cy (v.map textE) ⟨#[44]⟩ _ HCELL.out HGL.out (by omega) HCAP.out (by have := hjs.out; rw [hll] at this; exact Nat.le_trans this (by omega)))
          rw [hll] at HJ
          clear hcs
          go_wp2_with (go_at_call 60; refine HJ.out.mono ?_; rintro e w' ⟨rfl, hb⟩)
          go_ret
          exact ⟨ret_str (by rw [HE.out, List.map_map]), (HBW.out.trans (HBr.out.mono hWw)).trans (hb.mono (Nat.le_trans hWw HBr.out.size))⟩
end Go.Proofs.Yteomicjjaajblaa

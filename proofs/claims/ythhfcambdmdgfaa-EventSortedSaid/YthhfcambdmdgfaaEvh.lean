import Derived.Test.YthhfcambdmdgfaaSwe
import Derived.IntWalk
namespace Go.Proofs.Ythhfcambdmdgfaa
open Go.RowKit Go.Maps Srt
set_option linter.unusedVariables false
set_option linter.unusedSimpArgs false
set_option maxRecDepth 100000 in
set_option maxHeartbeats 4000000 in
theorem insS_nil (W : World) :
    Calls Try.prog 104 #[.slice none 0 0, .int .i64 0, .int .i64 0, .func (.func 58) #[] #[]] W fun e w' => e = .returned (.tuple #[]) ∧ Below W.heap.size W w' := by
  have HB := Lib.hid (Below.refl W.heap.size W)
  go_enter Try.func104, Try.ntmps104
  go_wp2_with fail
  go_loopw [8] (fun s wr => s = .int .i64 1 ∧ Hid (Below W.heap.size W wr)) (fun _ _ => 0)
  case atStart => exact ⟨rfl, HB⟩
  case round =>
    obtain ⟨rfl, HB⟩ := hrel
    go_wp2_with fail
    go_end0
    exact ⟨rfl, HB.out⟩
set_option maxRecDepth 100000 in
set_option maxHeartbeats 4000000 in
theorem stable_nil (W : World) :
    Calls Try.prog 80 #[.slice none 0 0, .int .i64 0, .func (.func 58) #[] #[]] W fun e w' => e = .returned (.tuple #[]) ∧ Below W.heap.size W w' := by
  have HB := Lib.hid (Below.refl W.heap.size W)
  go_enter Try.func80, Try.ntmps80
  go_wp2_with fail
  go_loopw [7, 8] (fun s t wr => s = .int .i64 0 ∧ t = .int .i64 20 ∧ Hid (Below W.heap.size W wr)) (fun _ _ _ => 0)
  case atStart => exact ⟨rfl, rfl, HB⟩
  case round =>
    clear HB
    obtain ⟨rfl, rfl, HB⟩ := hrel
    go_wp2_with (go_at_call 104; refine (insS_nil _).mono ?_; rintro e w2 ⟨rfl, hb⟩; have HB2 := Lib.hid (bl_next HB.out hb); clear hb)
    go_loopw [6] (fun s wr => s = .int .i64 20 ∧ Hid (Below W.heap.size W wr)) (fun _ _ => 0)
    case atStart => exact ⟨rfl, HB2⟩
    case round =>
      obtain ⟨rfl, HB3⟩ := hrel
      go_wp2_with fail
      go_end0
      exact ⟨rfl, HB3.out⟩
set_option maxRecDepth 100000 in
set_option maxHeartbeats 4000000 in
theorem sortS_nil (W : World) :
    Calls Try.prog 57 #[.slice none 0 0, .func (.func 58) #[] #[]] W fun e w' => e = .returned (.tuple #[]) ∧ Below W.heap.size W w' := by
  have HC := Lib.hid (stable_nil W)
  go_enter Try.func57, Try.ntmps57
  go_wp2_with (go_at_call 80; refine HC.out.mono ?_; rintro e w4 ⟨rfl, hd⟩; have HD := Lib.hid hd; clear hd)
  go_end0
  exact ⟨rfl, HD.out⟩
/-! ### event.Sorted -/
theorem field_objs (w : World) (v0 v1 v2 v3 v4 v5 v6 v7 v8 v9 : Value) (A : Option Addr) (n c : Nat) : (Instr.field 30 (.agg #[v0, v1, v2, v3, v4, v5, v6, v7, v8, v9, .slice A n c]) 3).run Try.prog w = .ok (.slice A n c) w := by kernel_rfl
def zeroO : ObjD := ⟨⟨⟨#[]⟩, ⟨#[]⟩, ⟨#[]⟩⟩, 0, ⟨#[]⟩, false, false, []⟩
theorem zeroO_S (w : World) : ObjS w (.slice none 0 0) zeroO := ⟨⟨sliS_nil w 2, by rintro p ⟨⟩⟩, by decide, by decide⟩
theorem zeroO_small : objSmall zeroO := ⟨⟨by decide, by decide, by decide⟩, by decide, by decide, by rintro p ⟨⟩⟩
def dOf (ys : List OX) : Nat → OX := fun i => ys.getD i (zeroO, .slice none 0 0)
theorem rowF_dOf (ys : List OX) : rowF (dOf ys) ys.length = ys := by
  apply List.ext_getElem?
  intro i
  by_cases hi : i < ys.length
  · rw [rowF_get _ _ hi]; unfold dOf; rw [List.getD_eq_getElem?_getD, List.getElem?_eq_getElem hi]; rfl
  · rw [List.getElem?_eq_none (by rw [rowF_len]; omega), List.getElem?_eq_none (by omega)]
theorem dOf_mem {ys : List OX} {i : Nat} (h : i < ys.length) : dOf ys i ∈ ys := by
  unfold dOf; rw [List.getD_eq_getElem?_getD, List.getElem?_eq_getElem h]; exact List.getElem_mem h
theorem oxs_srt {ys : List OX} (h : ys.Pairwise (fun x y => ltB (kX y) (kX x) = false)) : SrtL kTO (oxs ys) := by
  unfold SrtL oxs; rw [List.pairwise_map]; exact h
theorem oxs_stab {ys zs : List OX} (h : Stab kX ys zs) : Stab kTO (oxs ys) (oxs zs) := by
  intro c
  unfold oxs
  rw [List.filter_map, List.filter_map]
  exact congrArg (List.map (·.1)) (h c)
def SortO (w : World) (l : List ObjD) (e : Ending) (w' : World) : Prop := ∃ v zs, e = .returned v ∧ ObjsF w' w.heap.size v zs ∧ oxs zs = srtX kTO l ∧ Below w.heap.size w w'
theorem sort_step {w W : World} {v : Value} {ys : List OX} {xs : List OX} (hf : ObjsF W w.heap.size v ys) (hb : Below w.heap.size w W) (he : oxs ys = oxs xs) (hs : OSmall (oxs xs)) (hl : xs.length ≤ 1000000) :
    Calls Try.prog 57 #[v, .func (.func 58) #[] #[]] W fun e w' => e = .returned (.tuple #[]) ∧ ∃ zs, ObjsF w' w.heap.size v zs ∧ oxs zs = srtX kTO (oxs xs) ∧ Below w.heap.size w w' := by
  have hlen : ys.length = xs.length := by rw [← oxs_len ys, he, oxs_len]
  have hrow := hf.1
  rcases hf.1.2 with ⟨hv, h0⟩ | ⟨g, cap, cur, hv, hg, _⟩
  · subst hv
    have hy : ys = [] := List.eq_nil_of_length_eq_zero h0
    refine (sortS_nil W).mono fun e w' q => ⟨q.1, ys, hf.below q.2, ?_, hb.trans (q.2.mono hb.size)⟩
    rw [← he, hy]; rfl
  · subst hv
    have S0 : SW W w.heap.size g ys.length cap (dOf ys) W := ⟨by rw [rowF_dOf]; exact hf.1, Kept.refl _ _⟩
    have P0 : AllP ys.length (dOf ys) := fun i hi => by
      have hm := dOf_mem hi
      refine ⟨hs _ (by rw [← he]; exact List.mem_map.2 ⟨_, hm, rfl⟩), ?_⟩
      obtain ⟨g2, e2⟩ := (hf.2 _ hm).form
      exact ⟨_, _, _, e2⟩
    refine (sortS_calls S0 P0 (by omega)).mono fun e w' q => ?_
    obtain ⟨q0, d', q1, q2, q3, q4⟩ := q
    have hst := q1.stab
    rw [rowF_dOf] at hst
    have hX : ∀ k, k = g → w.heap.size ≤ k := fun k e => by rw [e]; exact hg
    refine ⟨q0, rowF d' ys.length, ⟨by rw [rowF_len]; exact q4.row, fun p hp => ?_⟩, ?_, hb.trans (q4.kept.below hb.size hX)⟩
    · exact (hf.2 p (hst.mem.2 hp)).kept q4.kept (fun k e c hc => row_apart hrow k (by rw [e]; rfl) c hc)
    · rw [← he]; exact srtX_of (oxs_srt (srt_row q2)) (oxs_stab hst)
set_option maxRecDepth 100000 in
set_option maxHeartbeats 4000000 in
theorem evsorted_calls (w : World) {ol : Value} {xs : List OX} (hx : ObjsS w ol xs) (hxs : OSmall (oxs xs)) (hl : xs.length ≤ 1000000) :
    Calls Try.prog 19 #[ol] w (SortO w (oxs xs)) := by
  have HC := Lib.hid (evown_calls w 0 (o := zeroO) 0 (zeroO_S w) zeroO_small hx hxs hl)
  have HS := Lib.hid (fun (W : World) (v : Value) (ys : List OX) (hf : ObjsF W w.heap.size v ys) (hb : Below w.heap.size w W) (he : oxs ys = oxs xs) => sort_step hf hb he hxs hl)
  obtain ⟨al, cl, rfl⟩ := hx.form
  clear hx hxs hl
  have HC' : Hid (Calls Try.prog 17 #[.agg #[.int .i64 0, .string ⟨#[]⟩, .string ⟨#[]⟩, .string ⟨#[]⟩, .int .i64 0, .string ⟨#[]⟩, .bool false, .bool false, .slice none 0 0, .int .i64 0, .slice al xs.length cl]] w (fun e w' => ∃ A c ga, e = .returned (.agg #[.int .i64 0, .string ⟨#[]⟩, .string ⟨#[]⟩, .string ⟨#[]⟩, .int .i64 0, .string ⟨#[]⟩, .bool false, .bool false, .slice ga 0 0, .int .i64 0, .slice A xs.length c]) ∧ Hid (∃ ys, ObjsF w' w.heap.size (.slice A xs.length c) ys ∧ oxs ys = oxs xs) ∧ Below w.heap.size w w')) := Lib.hid (HC.out.mono fun e w' q => by
    obtain ⟨x, ov, ys, q1, q2, q3, q4, q5⟩ := q
    obtain ⟨A, c, rfl⟩ := q3.form
    obtain ⟨gx, rfl⟩ := q2.form
    have hlen : ys.length = xs.length := by rw [← oxs_len ys, q4, oxs_len]
    rw [hlen] at q1 q3
    exact ⟨A, c, some ⟨gx, 0, none⟩, q1, Lib.hid ⟨ys, q3, q4⟩, q5⟩)
  clear HC
  have hfld := field_objs
  go_enter Try.func19, Try.ntmps19
  go_upto_region 2 with (go_at_call 17; refine HC'.out.mono ?_; rintro e w2 ⟨A, c, ga, rfl, HY, hb⟩; have HB := Lib.hid hb; clear hb)
  have HC2 : Hid (Calls Try.prog 57 #[.slice A xs.length c, .func (.func 58) #[] #[]] w2 fun e w' => e = .returned (.tuple #[]) ∧ Hid (∃ zs, ObjsF w' w.heap.size (.slice A xs.length c) zs ∧ oxs zs = srtX kTO (oxs xs) ∧ Below w.heap.size w w')) := Lib.hid (by
    obtain ⟨ys, q1, q2⟩ := HY.out
    exact (HS.out _ _ ys q1 HB.out q2).mono fun e w' q => ⟨q.1, Lib.hid q.2⟩)
  clear HY HB HC' HS hfld
  go_wp2_with (go_at_call 57; refine HC2.out.mono ?_; rintro e w3 ⟨rfl, HZ⟩)
  go_ret
  obtain ⟨zs, q1, q2, q3⟩ := HZ.out
  exact ⟨_, zs, rfl, q1, q2, q3⟩
/-! ### scutageref07.Sorted -/
set_option maxRecDepth 100000 in
set_option maxHeartbeats 16000000 in
theorem rsorted_calls (w : World) {ol : Value} {xs : List OX} (hx : ObjsS w ol xs) (hxs : OSmall (oxs xs)) (hl : xs.length ≤ 1000000) :
    Calls Try.prog 20 #[ol] w fun e w' => ∃ v, e = .returned v ∧ w'.ownsRow w.heap.size 27 8 v (srtX kX xs).length (objC (srtX kX xs)) ∧ Below w.heap.size w w' := by
  have HX := Lib.hid hx; have HSM := Lib.hid hxs
  have HOP := Lib.hid (show ∀ p ∈ xs, OP p from fun p hp => ⟨hxs _ (List.mem_map.2 ⟨p, hp, rfl⟩), by obtain ⟨A, c, e⟩ := (hx.2 p hp).1.form; exact ⟨_, _, _, e⟩⟩)
  obtain ⟨al, cl, rfl⟩ := hx.form
  clear hx hxs
  have HNIL := Lib.hid (objsF_nil w w.heap.size).1
  have HB0 := Lib.hid (Below.refl w.heap.size w)
  go_enter Try.func20, Try.ntmps20
  go_wp2_with fail
  go_loopw [3, 4] (fun s i wr => ∃ (k : Nat) (A : Option Addr) (c : Nat), i = .int .i64 (k : Int) ∧ k ≤ xs.length ∧ s = .slice A k c ∧ Hid (wr.ownsRow w.heap.size 27 8 (.slice A k c) (srtX kX (xs.take k)).length (objC (srtX kX (xs.take k)))) ∧ Hid (Below w.heap.size w wr)) (fun _ i _ => xs.length - (intOf i).toNat)
  case atStart => exact ⟨0, none, 0, rfl, Nat.zero_le _, rfl, HNIL, HB0⟩
  case round =>
    clear HNIL HB0
    obtain ⟨k, A, c, rfl, hk, rfl, HR, HB⟩ := hrel
    by_cases hkl : k < xs.length
    · have hkI : (k : Int) < xs.length := by omega
      obtain ⟨b, of, c2, he, q, s⟩ := HX.out.at' hkl
      cases he
      have HPX := Lib.hid (HOP.out _ (List.getElem_mem hkl))
      have HT := Lib.hid (show srtX kX (xs.take (k + 1)) = insX kX (xs[k]'hkl) (srtX kX (xs.take k)) by rw [List.take_succ_eq_append_getElem hkl, srtX_snoc])
      have HOO := Lib.hid (show ∀ p ∈ srtX kX (xs.take k), OP p from fun p hp => HOP.out p (List.mem_of_mem_take (srtX_mem.1 hp)))
      have HOL := Lib.hid (show (srtX kX (xs.take k)).length = k by rw [srtX_len, List.length_take]; omega)
      generalize srtX kX (xs.take k) = o at HR HT HOO HOL
      generalize xs[k]'hkl = x at q s HPX HT
      obtain ⟨x, sx⟩ := x
      obtain ⟨zx, ax, nx, cx, ex⟩ := HPX.out
      simp only at ex zx
      subst ex
      obtain ⟨⟨zx1, zx2, zx3⟩, _⟩ := zx
      obtain ⟨V, rfl⟩ : ∃ V : World, V = wr := ⟨_, rfl⟩
      have QX := Lib.hid (q.below HB.out)
      clear q s
      have HNIL := Lib.hid (objsF_nil V V.heap.size).1
      have HV0 := Lib.hid (Below.refl V.heap.size V)
      go_wp2_with fail
      go_loopw [5, 6, 7] (fun sn sd sk wr => ∃ (j : Nat) (dn : Bool) (A' : Option Addr) (m c' : Nat), sk = .int .i64 (j : Int) ∧ sd = .bool dn ∧ sn = .slice A' m c' ∧ j ≤ k ∧ m ≤ j + 1 ∧ Hid (dn = (insTo kX (x, Value.slice ax nx cx) o j).2 ∧ m = (insTo kX (x, Value.slice ax nx cx) o j).1.length ∧ wr.ownsRow V.heap.size 27 8 (.slice A' m c') m (objC (insTo kX (x, Value.slice ax nx cx) o j).1)) ∧ Hid (Below V.heap.size V wr)) (fun _ _ sk _ => k - (intOf sk).toNat)
      case atStart => exact ⟨0, false, none, 0, 0, rfl, rfl, rfl, Nat.zero_le _, by omega, Lib.hid ⟨rfl, rfl, HNIL.out⟩, HV0⟩
      case round =>
        clear HNIL HV0
        obtain ⟨j, dn, A', m, c', rfl, rfl, rfl, hj, hm, HQ, HV⟩ := hrel
        by_cases hjk : j < k
        · have hjI : (j : Int) < k := by omega
          have hjo : j < o.length := by rw [HOL.out]; exact hjk
          have HST := Lib.hid (insTo_succ (t := kX) (x := (x, Value.slice ax nx cx)) hjo)
          have HPY := Lib.hid (HOO.out _ (List.getElem_mem hjo))
          obtain ⟨y, hy⟩ : ∃ y, o[j]'hjo = y := ⟨_, rfl⟩
          rw [hy] at HST HPY
          obtain ⟨gb, gc, hgv⟩ := rw_pos HR.out (by rw [HOL.out]; omega)
          have hgv2 : A = some ⟨gb, 0, none⟩ := by cases hgv; rfl
          subst hgv2
          have HCY : Hid (ObjAt V gb (j * 8) y) := Lib.hid (by
            have z := HR.out
            rw [HOL.out] at z
            have hc := (rw_cells z).2.2.1
            have g8 : ∀ i, i < 8 → ∀ u, (objX y)[i]? = some u → V.cell? ⟨gb, j * 8 + i, none⟩ = some u := fun i hi u hu => by
              have e := objC_get o j hjo i hi
              rw [hy, hu] at e
              have := hc (j * 8 + i) (by omega)
              rw [List.getD_eq_getElem?_getD, e] at this
              exact this
            exact ⟨g8 0 (by omega) _ rfl, g8 1 (by omega) _ rfl, g8 2 (by omega) _ rfl, g8 3 (by omega) _ rfl, g8 4 (by omega) _ rfl, g8 5 (by omega) _ rfl, g8 6 (by omega) _ rfl, g8 7 (by omega) _ rfl⟩)
          clear hy hgv
          obtain ⟨y, sy⟩ := y
          obtain ⟨zy, ay, ny, cy, ey⟩ := HPY.out
          simp only at ey zy
          subst ey
          obtain ⟨⟨zy1, zy2, zy3⟩, _⟩ := zy
          obtain ⟨U, rfl⟩ : ∃ U : World, U = wr := ⟨_, rfl⟩
          have p1 := QX.out.below HV.out; have p2 := HCY.out.below HV.out
          have a0 := p1.c0; have a1 := p1.c1; have a2 := p1.c2; have a3 := p1.c3; have a4 := p1.c4; have a5 := p1.c5; have a6 := p1.c6; have a7 := p1.c7
          have b0 := p2.c0; have b1 := p2.c1; have b2 := p2.c2; have b3 := p2.c3; have b4 := p2.c4; have b5 := p2.c5; have b6 := p2.c6; have b7 := p2.c7
          simp only at a0 a1 a2 a3 a4 a5 a6 a7 b0 b1 b2 b3 b4 b5 b6 b7
          clear p1 p2
          have hB := Below.refl U.heap.size U
          have hml : m ≤ 2000000 := by omega
          obtain ⟨lt, hlt⟩ : ∃ l, ltB (kX (x, Value.slice ax nx cx)) (kX (y, Value.slice ay ny cy)) = l := ⟨_, rfl⟩
          have HLT := Lib.hid (show Op.bytesLess (keyText x.key.kind x.key.space x.key.name).toList (keyText y.key.kind y.key.space y.key.name).toList = lt from hlt)
          rw [hlt] at HST
          clear hlt
          go_upto_region 10 with fail
          have hB := hB.drew
          refine region_seq (fun w' => Below U.heap.size U w') [(0, true), (1, true), (2, true), (3, true), (4, true), (5, true), (6, true), (7, true), (8, true), (9, true), (10, false), (11, true)] (by kernel_rfl) (by kernel_rfl) (fun _ _ _ _ h => h) hB ?_
          try generalize World.drew _ = wS at hB ⊢
          refine seq_take (v := ?_) (a' := ?_) (some 21) rfl rfl (by rfl) ?_ ?_ ?_
          rotate_left; rotate_left
          · intro w' hS; go_simp; with_reducible rfl
          · simp only [Act.put, List.setIfInBounds_toArray, List.set_cons_zero, List.set_cons_succ]; rfl
          refine seq_take (v := ?_) (a' := ?_) (some 22) rfl rfl (by rfl) ?_ ?_ ?_
          rotate_left; rotate_left
          · intro w' hS; go_simp; with_reducible rfl
          · simp only [Act.put, List.setIfInBounds_toArray, List.set_cons_zero, List.set_cons_succ]; rfl
          refine seq_take (v := ?_) (a' := ?_) (some 23) rfl rfl (by rfl) ?_ ?_ ?_
          rotate_left; rotate_left
          · intro w' hS; go_simp; with_reducible rfl
          · simp only [Act.put, List.setIfInBounds_toArray, List.set_cons_zero, List.set_cons_succ]; rfl
          refine seq_take (v := ?_) (a' := ?_) (some 24) rfl rfl (by rfl) ?_ ?_ ?_
          rotate_left; rotate_left
          · intro w' hS; go_simp; with_reducible rfl
          · simp only [Act.put, List.setIfInBounds_toArray, List.set_cons_zero, List.set_cons_succ]; rfl
          refine seq_take (v := ?_) (a' := ?_) (some 25) rfl rfl (by rfl) ?_ ?_ ?_
          rotate_left; rotate_left
          · intro w' hS; have t0 := cb hS a0; have t1 := cb hS a1; have t2 := cb hS a2; have s0 := cb hS b0; have s1 := cb hS b1; have s2 := cb hS b2; go_simp; with_reducible rfl
          · simp only [Act.put, List.setIfInBounds_toArray, List.set_cons_zero, List.set_cons_succ]; rfl
          refine seq_take (v := ?_) (a' := ?_) (some 26) rfl rfl (by rfl) ?_ ?_ ?_
          rotate_left; rotate_left
          · intro w' hS; go_simp; with_reducible rfl
          · simp only [Act.put, List.setIfInBounds_toArray, List.set_cons_zero, List.set_cons_succ]; rfl
          refine seq_take (v := ?_) (a' := ?_) (some 27) rfl rfl (by rfl) ?_ ?_ ?_
          rotate_left; rotate_left
          · intro w' hS; go_simp; with_reducible rfl
          · simp only [Act.put, List.setIfInBounds_toArray, List.set_cons_zero, List.set_cons_succ]; rfl
          refine seq_take (v := ?_) (a' := ?_) (some 28) rfl rfl (by rfl) ?_ ?_ ?_
          rotate_left; rotate_left
          · intro w' hS; go_simp; with_reducible rfl
          · simp only [Act.put, List.setIfInBounds_toArray, List.set_cons_zero, List.set_cons_succ]; rfl
          refine seq_take (v := ?_) (a' := ?_) (some 29) rfl rfl (by rfl) ?_ ?_ ?_
          rotate_left; rotate_left
          · intro w' hS; go_simp; with_reducible rfl
          · simp only [Act.put, List.setIfInBounds_toArray, List.set_cons_zero, List.set_cons_succ]; rfl
          refine seq_take (v := ?_) (a' := ?_) (some 30) rfl rfl (by rfl) ?_ ?_ ?_
          rotate_left; rotate_left
          · intro w' hS; have t0 := cb hS a0; have t1 := cb hS a1; have t2 := cb hS a2; have s0 := cb hS b0; have s1 := cb hS b1; have s2 := cb hS b2; go_simp; with_reducible rfl
          · simp only [Act.put, List.setIfInBounds_toArray, List.set_cons_zero, List.set_cons_succ]; rfl
          refine seq_call (args := ?_) Try.func59 (by kernel_rfl) rfl (some 31) rfl rfl (by rfl) rfl ?_ ?_
          rotate_left
          · simp only [List.map_toArray, List.map_cons, List.map_nil]; go_simp; rfl
          with_reducible refine (refLess_calls _ _ _ _ _ _ _ (by omega) (by omega)).mono ?_
          rintro e w' ⟨rfl, hb⟩
          rw [HLT.out]
          refine ⟨_, rfl, bl_next (by repeat (first | with_reducible exact hB | refine Below.alloc ?_ (by have := hB.size; simp; omega) _ | refine bl_dN ?_ _ | refine Below.drew ?_ | refine Below.setCell ?_ (by have := hB.size; simp; omega) _)) hb, ?_⟩
          have hB := bl_next (by repeat (first | with_reducible exact hB | refine Below.alloc ?_ (by have := hB.size; simp; omega) _ | refine bl_dN ?_ _ | refine Below.drew ?_ | refine Below.setCell ?_ (by have := hB.size; simp; omega) _)) hb; clear hb
          simp only [Act.put, List.setIfInBounds_toArray, List.set_cons_zero, List.set_cons_succ]
          refine seq_take (v := ?_) (a' := ?_) (some 8) rfl rfl (by rfl) ?_ ?_ ?_
          rotate_left; rotate_left
          · intro w' hS; go_simp; with_reducible rfl
          · simp only [Act.put, List.setIfInBounds_toArray, List.set_cons_zero, List.set_cons_succ]; rfl
          refine seq_done ?_
          have HQ2 := Lib.hid (rw_below HQ.out.2.2 hB)
          have HV2 := Lib.hid (bl_next HV.out hB)
          have a0 := cb hB a0; have a1 := cb hB a1; have a2 := cb hB a2; have a3 := cb hB a3; have a4 := cb hB a4; have a5 := cb hB a5; have a6 := cb hB a6; have a7 := cb hB a7; have b0 := cb hB b0; have b1 := cb hB b1; have b2 := cb hB b2; have b3 := cb hB b3; have b4 := cb hB b4; have b5 := cb hB b5; have b6 := cb hB b6; have b7 := cb hB b7
          obtain ⟨U2, rfl⟩ : ∃ U2 : World, U2 = w' := ⟨_, rfl⟩
          have HL := Lib.hid (And.intro HQ.out.1 HQ.out.2.1)
          clear hB HQ HV
          obtain ⟨nl, hnl⟩ : ∃ nl, (insTo kX (x, Value.slice ax nx cx) o j).1 = nl := ⟨_, rfl⟩
          obtain ⟨nb, hnb⟩ : ∃ nb, (insTo kX (x, Value.slice ax nx cx) o j).2 = nb := ⟨_, rfl⟩
          have HLEN := Lib.hid (insTo_len (t := kX) (x, Value.slice ax nx cx) o j (by omega))
          rw [hnl, hnb] at HLEN
          rw [hnl] at HQ2
          rw [hnl, hnb] at HST HL
          obtain ⟨hL1, hL2⟩ := HL.out
          subst hL1; subst hL2
          clear hnl hnb HL
          cases dn with
          | true =>
            have HEND := Lib.hid (show insTo kX (x, Value.slice ax nx cx) o (j + 1) = (nl ++ [(y, Value.slice ay ny cy)], true) by rw [HST.out]; rfl)
            go_wp2_with (at_builtin; refine app_obj rfl (.tmp 44) (.tmp 49) rfl V.heap.size _ (.slice A' nl.length c') nl (y, .slice ay ny cy) _ _ _ rfl rfl HQ2.out 1 rfl HV2.out.size (by omega) ?_; intro g3 cap w3 hown' hk'; have HN := Lib.hid hown'; have HB3 := Lib.hid (HV2.out.trans (row_below HQ2.out hk' HV2.out.size)); clear hown' hk')
            go_roundw
            case rel => exact ⟨j + 1, true, _, _, cap, by simp, rfl, rfl, by omega, by omega, Lib.hid ⟨by rw [HEND.out], by rw [HEND.out]; simp, by rw [HEND.out]; have z := HN.out; simpa using z⟩, HB3⟩
            case measure => simp [intOf]; omega
          | false =>
            cases lt with
            | false =>
              have HEND := Lib.hid (show insTo kX (x, Value.slice ax nx cx) o (j + 1) = (nl ++ [(y, Value.slice ay ny cy)], false) by rw [HST.out]; rfl)
              go_wp2_with (at_builtin; refine app_obj rfl (.tmp 44) (.tmp 49) rfl V.heap.size _ (.slice A' nl.length c') nl (y, .slice ay ny cy) _ _ _ rfl rfl HQ2.out 1 rfl HV2.out.size (by omega) ?_; intro g3 cap w3 hown' hk'; have HN := Lib.hid hown'; have HB3 := Lib.hid (HV2.out.trans (row_below HQ2.out hk' HV2.out.size)); clear hown' hk')
              go_roundw
              case rel => exact ⟨j + 1, false, _, _, cap, by simp, rfl, rfl, by omega, by omega, Lib.hid ⟨by rw [HEND.out], by rw [HEND.out]; simp, by rw [HEND.out]; have z := HN.out; simpa using z⟩, HB3⟩
              case measure => simp [intOf]; omega
            | true =>
              have HEND := Lib.hid (show insTo kX (x, Value.slice ax nx cx) o (j + 1) = (nl ++ [(x, Value.slice ax nx cx), (y, Value.slice ay ny cy)], true) by rw [HST.out]; rfl)
              go_upto_region 13 with (at_builtin; refine app_obj rfl (.tmp 37) (.tmp 42) rfl V.heap.size _ (.slice A' nl.length c') nl (x, .slice ax nx cx) _ _ _ rfl rfl HQ2.out 1 rfl HV2.out.size (by omega) ?_; intro g3 cap w3 hown' hk'; have HN := Lib.hid hown'; have HB3 := Lib.hid (HV2.out.trans (row_below HQ2.out hk' HV2.out.size)); clear hown' hk'; have p2 := HCY.out.below HB3.out; have b0 := p2.c0; have b1 := p2.c1; have b2 := p2.c2; have b3 := p2.c3; have b4 := p2.c4; have b5 := p2.c5; have b6 := p2.c6; have b7 := p2.c7; simp only at b0 b1 b2 b3 b4 b5 b6 b7; clear p2)
              go_wp2_with (at_builtin; refine app_obj rfl (.tmp 44) (.tmp 49) rfl V.heap.size _ (.slice (some ⟨g3, 0, none⟩) (nl.length + 1) cap) (nl ++ [(x, .slice ax nx cx)]) (y, .slice ay ny cy) _ _ _ rfl rfl HN.out 1 rfl HB3.out.size (by simp; omega) ?_; intro g4 cap4 w4 hown' hk'; have HN4 := Lib.hid hown'; have HB4 := Lib.hid (HB3.out.trans (row_below HN.out hk' HB3.out.size)); clear hown' hk')
              go_roundw
              case rel => exact ⟨j + 1, true, _, _, cap4, by simp, rfl, rfl, by omega, (by have z := HLEN.out; simp at z ⊢; omega), Lib.hid ⟨by rw [HEND.out], by rw [HEND.out]; simp, by rw [HEND.out]; have z := HN4.out; simpa using z⟩, HB4⟩
              case measure => simp [intOf]; omega
        · obtain rfl : j = k := by omega
          have HEND := Lib.hid (insTo_end (t := kX) (x, Value.slice ax nx cx) o)
          rw [HOL.out] at HEND
          have HL := Lib.hid (And.intro HQ.out.1 HQ.out.2.1)
          have HQ2 := Lib.hid HQ.out.2.2
          clear HQ
          obtain ⟨nl, hnl⟩ : ∃ nl, (insTo kX (x, Value.slice ax nx cx) o j).1 = nl := ⟨_, rfl⟩
          obtain ⟨nb, hnb⟩ : ∃ nb, (insTo kX (x, Value.slice ax nx cx) o j).2 = nb := ⟨_, rfl⟩
          rw [hnl] at HQ2
          rw [hnl, hnb] at HEND HL
          obtain ⟨hL1, hL2⟩ := HL.out
          subst hL1; subst hL2
          clear hnl hnb HL
          obtain ⟨U, rfl⟩ : ∃ U : World, U = wr := ⟨_, rfl⟩
          have p1 := QX.out.below HV.out
          have a0 := p1.c0; have a1 := p1.c1; have a2 := p1.c2; have a3 := p1.c3; have a4 := p1.c4; have a5 := p1.c5; have a6 := p1.c6; have a7 := p1.c7
          simp only at a0 a1 a2 a3 a4 a5 a6 a7
          clear p1
          cases dn with
          | true =>
            have HFIN := Lib.hid (show srtX kX (xs.take (j + 1)) = nl by rw [HT.out, HEND.out]; rfl)
            have HNL := Lib.hid (show nl.length = j + 1 by rw [← HFIN.out, srtX_len, List.length_take]; omega)
            go_wp2_with fail
            go_roundw
            case rel => exact ⟨j + 1, A', c', by simp, by omega, by rw [HNL.out], Lib.hid (by rw [HFIN.out, ← HNL.out]; exact rw_mono HQ2.out HB.out.size), Lib.hid (HB.out.trans (HV.out.mono HB.out.size))⟩
            case measure => simp [intOf]; omega
          | false =>
            have HFIN := Lib.hid (show srtX kX (xs.take (j + 1)) = nl ++ [(x, Value.slice ax nx cx)] by rw [HT.out, HEND.out]; rfl)
            have HNL := Lib.hid (show nl.length = j by have z := congrArg List.length HFIN.out; rw [srtX_len, List.length_take, List.length_append] at z; simp at z; omega)
            have hml : nl.length ≤ 2000000 := by omega
            go_wp2_with (at_builtin; refine app_obj rfl (.tmp 53) (.tmp 58) rfl V.heap.size _ (.slice A' nl.length c') nl (x, .slice ax nx cx) _ _ _ rfl rfl HQ2.out 1 rfl HV.out.size (by omega) ?_; intro g3 cap w3 hown' hk'; have HN := Lib.hid hown'; have HB3 := Lib.hid (HV.out.trans (row_below HQ2.out hk' HV.out.size)); clear hown' hk')
            go_roundw
            case rel => exact ⟨j + 1, _, cap, by simp, by omega, by rw [HNL.out], Lib.hid (by rw [HFIN.out, ← HNL.out]; exact rw_mono HN.out HB.out.size), Lib.hid (HB.out.trans (HB3.out.mono HB.out.size))⟩
            case measure => simp [intOf]; omega
    · obtain rfl : k = xs.length := by omega
      have hr := HR.out
      rw [List.take_length] at hr
      have HR2 := Lib.hid hr
      clear hr
      go_wp2_with fail
      go_ret
      exact ⟨_, rfl, HR2.out, HB.out⟩
end Go.Proofs.Ythhfcambdmdgfaa

import Derived.Test.YthhfcambdmdgfaaKsrab
import Derived.IntWalk
namespace Go.Proofs.Ythhfcambdmdgfaa
open Go.RowKit Go.Maps
set_option linter.unusedVariables false
set_option linter.unusedSimpArgs false
theorem opI64 : Opens Try.prog 2 (kInt .i64) := opens_int Try.underlying2 (by kernel_rfl)
theorem opBool : Opens Try.prog 4 kBool := opens_bool Try.underlying4 (by kernel_rfl)
def kKeyD : Kd KeyD := kIso (kPair kStr (kPair kStr kStr)) fun x => (x.kind, x.space, x.name)
theorem opKeyD : Opens Try.prog 24 kKeyD := by
  refine opens_iso (fun x => ⟨x.1, x.2.1, x.2.2⟩) (fun _ => rfl) ?_
  refine opens_struct Try.underlying24 (by kernel_rfl) ?_
  exact (by refine opensF_cons ?_ ?_ ?_; rfl; exact opStr; refine opensF_cons ?_ ?_ ?_; rfl; exact opStr; refine opensF_one ?_ ?_; rfl; exact opStr)
def kRes1 : Kd (ByteArray × Int) := kPair kStr (kInt .i64)
theorem opRes1 : Opens Try.prog 112 kRes1 := by
  refine opens_struct Try.underlying112 (by kernel_rfl) ?_
  exact (by refine opensF_cons ?_ ?_ ?_; rfl; exact opStr; refine opensF_one ?_ ?_; rfl; exact opI64)
theorem opResL : Opens Try.prog 25 (kSlice kRes1) := opens_slice Try.underlying25 (by kernel_rfl) (by decide) opRes1
def kObj : Kd ObjD := kIso (kPair kKeyD (kPair (kInt .i64) (kPair kStr (kPair kBool (kPair kBool (kSlice kRes1)))))) fun o => (o.key, o.ver, o.cls, o.term, o.best, o.charge)
theorem opObj : Opens Try.prog 27 kObj := by
  refine opens_iso (fun x => ⟨x.1, x.2.1, x.2.2.1, x.2.2.2.1, x.2.2.2.2.1, x.2.2.2.2.2⟩) (fun _ => rfl) ?_
  refine opens_struct Try.underlying27 (by kernel_rfl) ?_
  exact (by refine opensF_cons ?_ ?_ ?_; rfl; exact opKeyD; refine opensF_cons ?_ ?_ ?_; rfl; exact opI64; refine opensF_cons ?_ ?_ ?_; rfl; exact opStr; refine opensF_cons ?_ ?_ ?_; rfl; exact opBool; refine opensF_cons ?_ ?_ ?_; rfl; exact opBool; refine opensF_one ?_ ?_; rfl; exact opResL)
theorem in64_wf {n : Int} (h : (Lit.int .i64 n).wf = true) : in64 n := by
  simp [Lit.wf, IntKind.min, IntKind.max, IntKind.signed, IntKind.bits] at h
  exact h
theorem resS_row {w : World} {ok : Nat → Prop} {A : Option Addr} {c : Nat} {l : Res} (hc : l.length ≤ c) (h : Row kRes1 w ok A l) : ResS w (.slice A l.length c) l := by
  rcases h with rfl | ⟨b, off, rfl, _, _, hr⟩
  · exact ⟨⟨rfl, _, _, rfl, hc, .inl rfl⟩, by rintro p ⟨⟩⟩
  · refine ⟨⟨resC_len l, _, _, rfl, hc, .inr ⟨b, off, rfl, fun j u hu => ?_⟩⟩, fun p hp => ?_⟩
    · have hj : j < l.length * 2 := by have := (List.getElem?_eq_some_iff.1 hu).1; rwa [resC_len] at this
      have hi : j / 2 < l.length := by omega
      obtain ⟨cs, hcs, c0, c1, rfl, h0, h1⟩ := hr (j / 2) hi
      have e0 : c0 = [.string (l[j / 2]'hi).1] := h0
      have e1 : c1 = [.int .i64 (l[j / 2]'hi).2] := h1.1
      subst e0; subst e1
      have hz : kRes1.sz = 2 := rfl
      rw [hz] at hcs
      have hg := resC_get l (j / 2) hi (j % 2) (by omega)
      rw [show j / 2 * 2 + j % 2 = j by omega, hu] at hg
      have := hcs (j % 2) u hg.symm
      rwa [show off + j / 2 * 2 + j % 2 = off + j by omega] at this
    · obtain ⟨i, hi, rfl⟩ := List.mem_iff_getElem.1 hp
      obtain ⟨cs, hcs, c0, c1, rfl, h0, h1⟩ := hr i hi
      exact in64_wf h1.2
theorem obj_of {w : World} {ok : Nat → Prop} {o : ObjD} {cs : List Value} (h : kObj.K w ok o cs) : ∃ sl, Value.agg cs.toArray = objV o sl ∧ ObjS w sl o := by
  obtain ⟨k0, k1, rfl, ⟨a0, a1, rfl, h0, a2, a3, rfl, h2, h3⟩, v0, v1, rfl, hv, s0, s1, rfl, hs, t0, t1, rfl, ht, b0, b1, rfl, hb, A, c, rfl, hc, hr⟩ := h
  rw [show a0 = _ from h0, show a2 = _ from h2, show a3 = _ from h3, show v0 = _ from hv.1, show s0 = _ from hs, show t0 = _ from ht, show b0 = _ from hb]
  exact ⟨.slice A o.charge.length c, rfl, resS_row hc hr, in64_wf hv.2⟩
end Go.Proofs.Ythhfcambdmdgfaa
namespace Go.Proofs.Ythhfcambdmdgfaa
open Go.RowKit Go.Maps
set_option linter.unusedVariables false
set_option linter.unusedSimpArgs false
def FitOut (w : World) (kk ks kn cls : ByteArray) (l : Res) (e : Ending) (w' : World) : Prop := ∃ f, e = .returned (.bool f) ∧ (f = true → (kk.size ≤ 200 ∧ ks.size ≤ 200 ∧ kn.size ≤ 200 ∧ cls.size ≤ 200 ∧ l.length ≤ 40 ∧ ∀ p ∈ l, p.1.size ≤ 200)) ∧ Below w.heap.size w w'
theorem fit_no {w w' : World} {kk ks kn cls : ByteArray} {l : Res} (h : Below w.heap.size w w') : FitOut w kk ks kn cls l (.returned (.bool false)) w' := ⟨false, rfl, (fun h => by cases h), h⟩
theorem fit_yes {w w' : World} {kk ks kn cls : ByteArray} {l : Res} (h : Below w.heap.size w w') (q : kk.size ≤ 200 ∧ ks.size ≤ 200 ∧ kn.size ≤ 200 ∧ cls.size ≤ 200 ∧ l.length ≤ 40 ∧ ∀ p ∈ l, p.1.size ≤ 200) : FitOut w kk ks kn cls l (.returned (.bool true)) w' := ⟨true, rfl, (fun _ => q), h⟩
set_option maxRecDepth 100000 in
set_option maxHeartbeats 8000000 in
theorem fits5_calls (w : World) {sl : Value} {o : ObjD} (h : ObjS w sl o) :
    Calls Try.prog 55 #[objV o sl] w (FitOut w o.key.kind o.key.space o.key.name o.cls o.charge) := by
  have H := Lib.hid h.1
  obtain ⟨al, cl, rfl⟩ := h.1.form
  clear h
  obtain ⟨l, hl⟩ : ∃ l, o.charge = l := ⟨_, rfl⟩
  unfold objV
  rw [hl] at H ⊢
  clear hl
  obtain ⟨⟨kk, ks, kn⟩, ver, cls, term, best, chg⟩ := o
  simp only
  go_enter Try.func55, Try.ntmps55
  go_upto_region 1 with fail
  first | with_reducible refine name_wp ?_ | with_reducible refine name_calls ?_
  intro W hWeq
  have g0 : W.heap[w.heap.size]? = some (.cells #[.string kk, .string ks, .string kn, .int .i64 ver, .string cls, .bool term, .bool best, .slice al l.length cl] 27) := by rw [hWeq]; repeat (first | (with_reducible exact blk_newAt _ _ (by simp)) | with_reducible refine blk_drew ?_ | with_reducible refine blk_dN ?_ _ | with_reducible refine blk_old ?_ _)
  have hw : Below w.heap.size w W := by rw [hWeq]; repeat (first | with_reducible exact Below.refl _ _ | with_reducible refine Below.drew ?_ | with_reducible refine bl_dN ?_ _ | with_reducible refine Below.alloc ?_ (by simp <;> omega) _)
  clear hWeq
  have hz : w.heap.size + 1 ≤ W.heap.size := by have := blk_lt g0; omega
  have c0_0 : W.cell? ⟨w.heap.size, 0, none⟩ = some (.string kk) := blk_cell g0 0
  have c0_1 : W.cell? ⟨w.heap.size, 1, none⟩ = some (.string ks) := blk_cell g0 1
  have c0_2 : W.cell? ⟨w.heap.size, 2, none⟩ = some (.string kn) := blk_cell g0 2
  have c0_3 : W.cell? ⟨w.heap.size, 3, none⟩ = some (.int .i64 ver) := blk_cell g0 3
  have c0_4 : W.cell? ⟨w.heap.size, 4, none⟩ = some (.string cls) := blk_cell g0 4
  have c0_5 : W.cell? ⟨w.heap.size, 5, none⟩ = some (.bool term) := blk_cell g0 5
  have c0_6 : W.cell? ⟨w.heap.size, 6, none⟩ = some (.bool best) := blk_cell g0 6
  have c0_7 : W.cell? ⟨w.heap.size, 7, none⟩ = some (.slice al l.length cl) := blk_cell g0 7
  have f0 : ∀ j, W.frozen? ⟨w.heap.size, j, none⟩ = false := blk_free g0
  have hB : Below W.heap.size W W := Below.refl _ _
  have G0 := Lib.hid g0; clear g0
  have F0 := Lib.hid f0; clear f0
  have Hw := Lib.hid hw; clear hw
  have HW := Lib.hid (H.out.below Hw.out)
  by_cases h_0 : kk.size ≤ 200
  · have i_0 : ¬ (200 : Int) < kk.size := by omega
    have j_0 : decide ((200 : Int) < kk.size) = false := decide_eq_false i_0
    by_cases h_1 : ks.size ≤ 200
    · have i_1 : ¬ (200 : Int) < ks.size := by omega
      have j_1 : decide ((200 : Int) < ks.size) = false := decide_eq_false i_1
      by_cases h_2 : kn.size ≤ 200
      · have i_2 : ¬ (200 : Int) < kn.size := by omega
        have j_2 : decide ((200 : Int) < kn.size) = false := decide_eq_false i_2
        by_cases h_3 : cls.size ≤ 200
        · have i_3 : ¬ (200 : Int) < cls.size := by omega
          have j_3 : decide ((200 : Int) < cls.size) = false := decide_eq_false i_3
          by_cases h_4 : l.length ≤ 40
          · have i_4 : ¬ (40 : Int) < l.length := by omega
            have j_4 : decide ((40 : Int) < l.length) = false := decide_eq_false i_4
            go_upto_region 3 with fail
            go_wp2_with fail
            go_loopw [3] (fun i wr => ∃ k : Nat, i = .int .i64 k ∧ k ≤ l.length ∧ Hid (∀ p ∈ l.take k, p.1.size ≤ 200) ∧ Below W.heap.size W wr) (fun i _ => l.length - (intOf i).toNat)
            case atStart => exact ⟨0, rfl, Nat.zero_le _, Lib.hid (by intro p hp; cases hp), hB⟩
            case round =>
              clear hB
              obtain ⟨k, rfl, hk, HR, hB⟩ := hrel
              have k7 := cb hB c0_7
              by_cases hkl : k < l.length
              · have hkI : (k : Int) < l.length := by omega
                obtain ⟨b, of, c, he, q0, q1, hin⟩ := HW.out.at' hkl
                cases he
                have q0 := cb hB q0
                have HSTEP := Lib.hid (show (l[k]'hkl).1.size ≤ 200 → ∀ p ∈ l.take (k + 1), p.1.size ≤ 200 from fun h p hp => by
                  rw [List.take_succ_eq_append_getElem hkl] at hp
                  rcases List.mem_append.1 hp with h9 | h9
                  · exact HR.out p h9
                  · obtain rfl := List.mem_singleton.1 h9; exact h)
                clear hin q1
                obtain ⟨p, hp⟩ : ∃ p, l[k]'hkl = p := ⟨_, rfl⟩
                rw [hp] at q0 HSTEP
                clear hp
                by_cases hz : p.1.size ≤ 200
                · have hzI : ¬ (200 : Int) < p.1.size := by omega
                  have hzJ : decide ((200 : Int) < p.1.size) = false := decide_eq_false hzI
                  have HOK := Lib.hid (HSTEP.out hz)
                  go_wp2_with fail
                  go_roundw
                  case rel => exact ⟨k + 1, by simp, by omega, HOK, hB⟩
                  case measure => simp [intOf]; omega
                · have hzI : (200 : Int) < p.1.size := by omega
                  have hzJ : decide ((200 : Int) < p.1.size) = true := decide_eq_true hzI
                  go_wp2_with fail
                  go_ret
                  exact fit_no (bl_from Hw.out hB)
              · obtain rfl : k = l.length := by omega
                have hR := HR.out
                rw [List.take_length] at hR
                have HR2 := Lib.hid hR
                clear hR
                go_wp2_with fail
                go_ret
                exact fit_yes (bl_from Hw.out hB) ⟨h_0, h_1, h_2, h_3, h_4, HR2.out⟩
          · have i_4 : (40 : Int) < l.length := by omega
            have j_4 : decide ((40 : Int) < l.length) = true := decide_eq_true i_4
            go_wp2_with fail
            go_ret
            exact fit_no Hw.out
        · have i_3 : (200 : Int) < cls.size := by omega
          have j_3 : decide ((200 : Int) < cls.size) = true := decide_eq_true i_3
          go_wp2_with fail
          go_ret
          exact fit_no Hw.out
      · have i_2 : (200 : Int) < kn.size := by omega
        have j_2 : decide ((200 : Int) < kn.size) = true := decide_eq_true i_2
        go_wp2_with fail
        go_ret
        exact fit_no Hw.out
    · have i_1 : (200 : Int) < ks.size := by omega
      have j_1 : decide ((200 : Int) < ks.size) = true := decide_eq_true i_1
      go_wp2_with fail
      go_ret
      exact fit_no Hw.out
  · have i_0 : (200 : Int) < kk.size := by omega
    have j_0 : decide ((200 : Int) < kk.size) = true := decide_eq_true i_0
    go_wp2_with fail
    go_ret
    exact fit_no Hw.out
end Go.Proofs.Ythhfcambdmdgfaa
namespace Go.Proofs.Ythhfcambdmdgfaa
open Go.RowKit Go.Maps
set_option linter.unusedVariables false
set_option linter.unusedSimpArgs false
abbrev OX := ObjD × Value
instance : DecidableEq ObjD := fun a b => if h : sameO a b = true then isTrue (objD_ext h) else isFalse (fun e => h (by rw [e]; exact sameO_refl b))
def objX (p : OX) : List Value := [.string p.1.key.kind, .string p.1.key.space, .string p.1.key.name, .int .i64 p.1.ver, .string p.1.cls, .bool p.1.term, .bool p.1.best, p.2]
def objC (xs : List OX) : List Value := xs.flatMap objX
theorem objC_get : ∀ (l : List OX) (k : Nat) (hk : k < l.length) (j : Nat), j < 8 → (objC l)[k * 8 + j]? = (objX (l[k]'hk))[j]?
  | p :: r, 0, _, j, hj => by
    show (objX p ++ objC r)[0 * 8 + j]? = (objX p)[j]?
    rw [Nat.zero_mul, Nat.zero_add, List.getElem?_append_left (by simp [objX]; exact hj)]
  | p :: r, k + 1, hk, j, hj => by
    show (objX p ++ objC r)[(k + 1) * 8 + j]? = _
    have hl : (objX p).length = 8 := rfl
    rw [List.getElem?_append_right (by rw [hl]; omega), hl, show (k + 1) * 8 + j - 8 = k * 8 + j by omega]
    rw [objC_get r k (by simpa using hk) j hj]
    rfl
theorem objC_app (l : List OX) (p : OX) : objC (l ++ [p]) = objC l ++ objX p := by simp [objC]
def ObjsS (w : World) (v : Value) (xs : List OX) : Prop := SliS w v 8 xs.length (objC xs) ∧ ∀ p ∈ xs, ObjS w p.2 p.1
def oxs (xs : List OX) : List ObjD := xs.map (·.1)
theorem oxs_len (xs : List OX) : (oxs xs).length = xs.length := by simp [oxs]
def OSmall (l : List ObjD) : Prop := ∀ o ∈ l, objSmall o
section
variable {w w' : World} {v : Value} {xs : List OX}
theorem ObjsS.form (h : ObjsS w v xs) : ∃ A c, v = .slice A xs.length c := h.1.form
theorem ObjsS.below (h : ObjsS w v xs) (hb : Below w.heap.size w w') : ObjsS w' v xs := ⟨h.1.below hb, fun p hp => (h.2 p hp).below hb⟩
/-- Cells of one. -/
structure ObjAt (w : World) (b o : Nat) (p : OX) : Prop where
  c0 : w.cell? ⟨b, o, none⟩ = some (.string p.1.key.kind)
  c1 : w.cell? ⟨b, o + 1, none⟩ = some (.string p.1.key.space)
  c2 : w.cell? ⟨b, o + 2, none⟩ = some (.string p.1.key.name)
  c3 : w.cell? ⟨b, o + 3, none⟩ = some (.int .i64 p.1.ver)
  c4 : w.cell? ⟨b, o + 4, none⟩ = some (.string p.1.cls)
  c5 : w.cell? ⟨b, o + 5, none⟩ = some (.bool p.1.term)
  c6 : w.cell? ⟨b, o + 6, none⟩ = some (.bool p.1.best)
  c7 : w.cell? ⟨b, o + 7, none⟩ = some p.2
theorem ObjsS.at' (h : ObjsS w v xs) {k : Nat} (hk : k < xs.length) : ∃ b off c, v = .slice (some ⟨b, off, none⟩) xs.length c ∧ ObjAt w b (off + k * 8) (xs[k]'hk) ∧ ObjS w (xs[k]'hk).2 (xs[k]'hk).1 := by
  obtain ⟨b, off, c, hv, _, hx⟩ := h.1.at' hk
  refine ⟨b, off, c, hv, ?_, h.2 _ (List.getElem_mem hk)⟩
  have g : ∀ j, j < 8 → ∀ u, (objX (xs[k]'hk))[j]? = some u → w.cell? ⟨b, off + k * 8 + j, none⟩ = some u := fun j hj u hu => hx j hj u (by rw [objC_get xs k hk j hj]; exact hu)
  exact ⟨g 0 (by omega) _ rfl, g 1 (by omega) _ rfl, g 2 (by omega) _ rfl, g 3 (by omega) _ rfl, g 4 (by omega) _ rfl, g 5 (by omega) _ rfl, g 6 (by omega) _ rfl, g 7 (by omega) _ rfl⟩
end
theorem ObjAt.below {w w' : World} {b o : Nat} {p : OX} (h : ObjAt w b o p) (hb : Below w.heap.size w w') : ObjAt w' b o p :=
  ⟨cb hb h.c0, cb hb h.c1, cb hb h.c2, cb hb h.c3, cb hb h.c4, cb hb h.c5, cb hb h.c6, cb hb h.c7⟩
theorem small_at {xs : List OX} (h : OSmall (oxs xs)) {k : Nat} (hk : k < xs.length) : objSmall (xs[k]'hk).1 := h _ (List.mem_map.2 ⟨_, List.getElem_mem hk, rfl⟩)
theorem oxs_take {xs : List OX} {k : Nat} (hk : k < xs.length) : (oxs xs).take (k + 1) = (oxs xs).take k ++ [(xs[k]'hk).1] := by
  rw [List.take_succ_eq_append_getElem (by rw [oxs_len]; exact hk)]; simp [oxs]
end Go.Proofs.Ythhfcambdmdgfaa
namespace Go.Proofs.Ythhfcambdmdgfaa
open Go.RowKit Go.Maps
set_option linter.unusedVariables false
set_option linter.unusedSimpArgs false
def kT (k : KeyD) : ByteArray := keyText k.kind k.space k.name
def kTO (o : ObjD) : ByteArray := kT o.key
section
variable {α : Type} {p : α → Bool} {t : α → ByteArray} {l : List α}
/-- Each right, rising. -/
def okL (p : α → Bool) (t : α → ByteArray) (l : List α) : Bool := l.all p && risB (l.map t)
theorem okL_iff : okL p t l = true ↔ (∀ x ∈ l, p x = true) ∧ l.Pairwise (fun x y => ltB (t x) (t y) = true) := by
  unfold okL; rw [Bool.and_eq_true, List.all_eq_true, risB_iff, List.pairwise_map]
theorem okL_take {k : Nat} (h : okL p t (l.take k) = false) : okL p t l = false := by
  cases q : okL p t l with
  | false => rfl
  | true =>
    obtain ⟨h1, h2⟩ := okL_iff.1 q
    rw [okL_iff.2 ⟨fun x hx => h1 x (List.mem_of_mem_take hx), List.Pairwise.sublist (List.take_sublist k l) h2⟩] at h
    cases h
theorem okL_at {k : Nat} (h : k < l.length) (hk : okL p t (l.take k) = true) : okL p t (l.take (k + 1)) = (p (l[k]'h) && (if h0 : 0 < k then ltB (t (l[k - 1]'(by omega))) (t (l[k]'h)) else true)) := by
  unfold okL at hk ⊢
  cases k with
  | zero =>
    cases l with
    | nil => cases h
    | cons x r => simp [risB]
  | succ j =>
    have e1 : l.take (j + 1) = l.take j ++ [l[j]'(by omega)] := List.take_succ_eq_append_getElem (by omega)
    have e2 : l.take (j + 1 + 1) = l.take j ++ [l[j]'(by omega)] ++ [l[j + 1]'h] := by rw [← e1]; exact List.take_succ_eq_append_getElem h
    rw [e1] at hk
    rw [e2, dif_pos (by omega)]
    have := risB_snoc ((l.take j).map t) (t (l[j]'(by omega))) (t (l[j + 1]'h))
    simp only [List.map_append, List.map_cons, List.map_nil, List.all_append, List.all_cons, List.all_nil, Bool.and_true] at this hk ⊢
    rw [this]
    simp only [Bool.and_eq_true] at hk
    rw [hk.1.1, hk.1.2, hk.2, Bool.true_and, Bool.true_and, Bool.true_and]
    rfl
end
structure EvD where
  kind : Int
  obj : ObjD
  ver : Int
  objs : List ObjD
def evV (kd : Int) (o : ObjD) (sl : Value) (vr : Int) (ol : Value) : Value := .agg #[.int .i64 kd, .string o.key.kind, .string o.key.space, .string o.key.name, .int .i64 o.ver, .string o.cls, .bool o.term, .bool o.best, sl, .int .i64 vr, ol]
def relP (v : Int) (o : ObjD) : Bool := rightO o && decide (o.ver ≤ v)
def relB (v : Int) (l : List ObjD) : Bool := okL (relP v) kTO l && decide (0 ≤ v) && decide (l.length ≤ 1000)
def rightE (e : EvD) : Bool :=
  if e.kind = 0 then rightO e.obj else if e.kind = 1 then keyOk e.obj.key && decide (1 ≤ e.obj.ver) else if e.kind = 2 then relB e.ver e.objs else if e.kind = 3 then decide (0 ≤ e.ver) else false
end Go.Proofs.Ythhfcambdmdgfaa
namespace Go.Proofs.Ythhfcambdmdgfaa
open Go.RowKit Go.Maps
set_option linter.unusedVariables false
set_option linter.unusedSimpArgs false
theorem fit_small' {o : ObjD} (h : o.key.kind.size ≤ 200 ∧ o.key.space.size ≤ 200 ∧ o.key.name.size ≤ 200 ∧ o.cls.size ≤ 200 ∧ o.charge.length ≤ 40 ∧ ∀ p ∈ o.charge, p.1.size ≤ 200) : objSmall o :=
  ⟨⟨by omega, by omega, by omega⟩, by omega, by omega, fun p hp => Nat.le_trans (h.2.2.2.2.2 p hp) (by omega)⟩
end Go.Proofs.Ythhfcambdmdgfaa

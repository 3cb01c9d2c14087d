import Derived.Test.YthhfcambdmdgfaaKspac
import Derived.IntWalk
import Derived.Test.YthhfcambdmdgfaaKspaa
import Derived.TacticsInMore
namespace Go.Proofs.Ythhfcambdmdgfaa
open Go.RowKit Go.Maps
set_option linter.unusedVariables false
set_option linter.unusedSimpArgs false
theorem opI64 : Opens Try.prog 2 (kInt .i64) := opens_int Try.underlying2 (by kernel_rfl)
theorem opBool : Opens Try.prog 4 kBool := opens_bool Try.underlying4 (by kernel_rfl)
def kKeyD : Kd KeyD := kIso (kPair kStr (kPair kStr kStr)) fun x => (x.kind, x.space, x.name)
theorem opKeyD : Opens Try.prog 24 kKeyD := by
  refine opens_iso (fun x => ⟨x.1, x.2.1, x.2.2⟩) (fun _ => rfl) ?_
  refine opens_struct Try.underlying24 (by kernel_rfl) ?_
  exact (by refine opensF_cons ?_ ?_ ?_; rfl; exact opStr; refine opensF_cons ?_ ?_ ?_; rfl; exact opStr; refine opensF_one ?_ ?_; rfl; exact opStr)
def kRes1 : Kd (ByteArray × Int) := kPair kStr (kInt .i64)
theorem opRes1 : Opens Try.prog 112 kRes1 := by
  refine opens_struct Try.underlying112 (by kernel_rfl) ?_
  exact (by refine opensF_cons ?_ ?_ ?_; rfl; exact opStr; refine opensF_one ?_ ?_; rfl; exact opI64)
theorem opResL : Opens Try.prog 25 (kSlice kRes1) := opens_slice Try.underlying25 (by kernel_rfl) (by decide) opRes1
def kObj : Kd ObjD := kIso (kPair kKeyD (kPair (kInt .i64) (kPair kStr (kPair kBool (kPair kBool (kSlice kRes1)))))) fun o => (o.key, o.ver, o.cls, o.term, o.best, o.charge)
theorem opObj : Opens Try.prog 27 kObj := by
  refine opens_iso (fun x => ⟨x.1, x.2.1, x.2.2.1, x.2.2.2.1, x.2.2.2.2.1, x.2.2.2.2.2⟩) (fun _ => rfl) ?_
  refine opens_struct Try.underlying27 (by kernel_rfl) ?_
  exact (by refine opensF_cons ?_ ?_ ?_; rfl; exact opKeyD; refine opensF_cons ?_ ?_ ?_; rfl; exact opI64; refine opensF_cons ?_ ?_ ?_; rfl; exact opStr; refine opensF_cons ?_ ?_ ?_; rfl; exact opBool; refine opensF_cons ?_ ?_ ?_; rfl; exact opBool; refine opensF_one ?_ ?_; rfl; exact opResL)
theorem in64_wf {n : Int} (h : (Lit.int .i64 n).wf = true) : in64 n := by
  simp [Lit.wf, IntKind.min, IntKind.max, IntKind.signed, IntKind.bits] at h
  exact h
theorem resS_row {w : World} {ok : Nat → Prop} {A : Option Addr} {c : Nat} {l : Res} (hc : l.length ≤ c) (h : Row kRes1 w ok A l) : ResS w (.slice A l.length c) l := by
  rcases h with rfl | ⟨b, off, rfl, _, _, hr⟩
  · exact ⟨⟨rfl, _, _, rfl, hc, .inl rfl⟩, by rintro p ⟨⟩⟩
  · refine ⟨⟨resC_len l, _, _, rfl, hc, .inr ⟨b, off, rfl, fun j u hu => ?_⟩⟩, fun p hp => ?_⟩
    · have hj : j < l.length * 2 := by have := (List.getElem?_eq_some_iff.1 hu).1; rwa [resC_len] at this
      have hi : j / 2 < l.length := by omega
      obtain ⟨cs, hcs, c0, c1, rfl, h0, h1⟩ := hr (j / 2) hi
      have e0 : c0 = [.string (l[j / 2]'hi).1] := h0
      have e1 : c1 = [.int .i64 (l[j / 2]'hi).2] := h1.1
      subst e0; subst e1
      have hz : kRes1.sz = 2 := rfl
      rw [hz] at hcs
      have hg := resC_get l (j / 2) hi (j % 2) (by omega)
      rw [show j / 2 * 2 + j % 2 = j by omega, hu] at hg
      have := hcs (j % 2) u hg.symm
      rwa [show off + j / 2 * 2 + j % 2 = off + j by omega] at this
    · obtain ⟨i, hi, rfl⟩ := List.mem_iff_getElem.1 hp
      obtain ⟨cs, hcs, c0, c1, rfl, h0, h1⟩ := hr i hi
      exact in64_wf h1.2
theorem obj_of {w : World} {ok : Nat → Prop} {o : ObjD} {cs : List Value} (h : kObj.K w ok o cs) : ∃ sl, Value.agg cs.toArray = objV o sl ∧ ObjS w sl o := by
  obtain ⟨k0, k1, rfl, ⟨a0, a1, rfl, h0, a2, a3, rfl, h2, h3⟩, v0, v1, rfl, hv, s0, s1, rfl, hs, t0, t1, rfl, ht, b0, b1, rfl, hb, A, c, rfl, hc, hr⟩ := h
  rw [show a0 = _ from h0, show a2 = _ from h2, show a3 = _ from h3, show v0 = _ from hv.1, show s0 = _ from hs, show t0 = _ from ht, show b0 = _ from hb]
  exact ⟨.slice A o.charge.length c, rfl, resS_row hc hr, in64_wf hv.2⟩
end Go.Proofs.Ythhfcambdmdgfaa
namespace Go.Proofs.Ythhfcambdmdgfaa
open Go.RowKit Go.Maps
set_option linter.unusedVariables false
set_option linter.unusedSimpArgs false
def FitOut (w : World) (kk ks kn cls : ByteArray) (l : Res) (e : Ending) (w' : World) : Prop := ∃ f, e = .returned (.bool f) ∧ (f = true → (kk.size ≤ 200 ∧ ks.size ≤ 200 ∧ kn.size ≤ 200 ∧ cls.size ≤ 200 ∧ l.length ≤ 40 ∧ ∀ p ∈ l, p.1.size ≤ 200)) ∧ Below w.heap.size w w'
theorem fit_no {w w' : World} {kk ks kn cls : ByteArray} {l : Res} (h : Below w.heap.size w w') : FitOut w kk ks kn cls l (.returned (.bool false)) w' := ⟨false, rfl, (fun h => by cases h), h⟩
theorem fit_yes {w w' : World} {kk ks kn cls : ByteArray} {l : Res} (h : Below w.heap.size w w') (q : kk.size ≤ 200 ∧ ks.size ≤ 200 ∧ kn.size ≤ 200 ∧ cls.size ≤ 200 ∧ l.length ≤ 40 ∧ ∀ p ∈ l, p.1.size ≤ 200) : FitOut w kk ks kn cls l (.returned (.bool true)) w' := ⟨true, rfl, (fun _ => q), h⟩
set_option maxRecDepth 100000 in
set_option maxHeartbeats 8000000 in
theorem fits5_calls (w : World) {sl : Value} {o : ObjD} (h : ObjS w sl o) :
    Calls Try.prog 55 #[objV o sl] w (FitOut w o.key.kind o.key.space o.key.name o.cls o.charge) := by
  have H := Lib.hid h.1
  obtain ⟨al, cl, rfl⟩ := h.1.form
  clear h
  obtain ⟨l, hl⟩ : ∃ l, o.charge = l := ⟨_, rfl⟩
  unfold objV
  rw [hl] at H ⊢
  clear hl
  obtain ⟨⟨kk, ks, kn⟩, ver, cls, term, best, chg⟩ := o
  simp only
  go_enter Try.func55, Try.ntmps55
  go_upto_region 1 with fail
  first | with_reducible refine name_wp ?_ | with_reducible refine name_calls ?_
  intro W hWeq
  have g0 : W.heap[w.heap.size]? = some (.cells #[.string kk, .string ks, .string kn, .int .i64 ver, .string cls, .bool term, .bool best, .slice al l.length cl] 27) := by rw [hWeq]; repeat (first | (with_reducible exact blk_newAt _ _ (by simp)) | with_reducible refine blk_drew ?_ | with_reducible refine blk_dN ?_ _ | with_reducible refine blk_old ?_ _)
  have hw : Below w.heap.size w W := by rw [hWeq]; repeat (first | with_reducible exact Below.refl _ _ | with_reducible refine Below.drew ?_ | with_reducible refine bl_dN ?_ _ | with_reducible refine Below.alloc ?_ (by simp <;> omega) _)
  clear hWeq
  have hz : w.heap.size + 1 ≤ W.heap.size := by have := blk_lt g0; omega
  have c0_0 : W.cell? ⟨w.heap.size, 0, none⟩ = some (.string kk) := blk_cell g0 0
  have c0_1 : W.cell? ⟨w.heap.size, 1, none⟩ = some (.string ks) := blk_cell g0 1
  have c0_2 : W.cell? ⟨w.heap.size, 2, none⟩ = some (.string kn) := blk_cell g0 2
  have c0_3 : W.cell? ⟨w.heap.size, 3, none⟩ = some (.int .i64 ver) := blk_cell g0 3
  have c0_4 : W.cell? ⟨w.heap.size, 4, none⟩ = some (.string cls) := blk_cell g0 4
  have c0_5 : W.cell? ⟨w.heap.size, 5, none⟩ = some (.bool term) := blk_cell g0 5
  have c0_6 : W.cell? ⟨w.heap.size, 6, none⟩ = some (.bool best) := blk_cell g0 6
  have c0_7 : W.cell? ⟨w.heap.size, 7, none⟩ = some (.slice al l.length cl) := blk_cell g0 7
  have f0 : ∀ j, W.frozen? ⟨w.heap.size, j, none⟩ = false := blk_free g0
  have hB : Below W.heap.size W W := Below.refl _ _
  have G0 := Lib.hid g0; clear g0
  have F0 := Lib.hid f0; clear f0
  have Hw := Lib.hid hw; clear hw
  have HW := Lib.hid (H.out.below Hw.out)
  by_cases h_0 : kk.size ≤ 200
  · have i_0 : ¬ (200 : Int) < kk.size := by omega
    have j_0 : decide ((200 : Int) < kk.size) = false := decide_eq_false i_0
    by_cases h_1 : ks.size ≤ 200
    · have i_1 : ¬ (200 : Int) < ks.size := by omega
      have j_1 : decide ((200 : Int) < ks.size) = false := decide_eq_false i_1
      by_cases h_2 : kn.size ≤ 200
      · have i_2 : ¬ (200 : Int) < kn.size := by omega
        have j_2 : decide ((200 : Int) < kn.size) = false := decide_eq_false i_2
        by_cases h_3 : cls.size ≤ 200
        · have i_3 : ¬ (200 : Int) < cls.size := by omega
          have j_3 : decide ((200 : Int) < cls.size) = false := decide_eq_false i_3
          by_cases h_4 : l.length ≤ 40
          · have i_4 : ¬ (40 : Int) < l.length := by omega
            have j_4 : decide ((40 : Int) < l.length) = false := decide_eq_false i_4
            go_upto_region 3 with fail
            go_wp2_with fail
            go_loopw [3] (fun i wr => ∃ k : Nat, i = .int .i64 k ∧ k ≤ l.length ∧ Hid (∀ p ∈ l.take k, p.1.size ≤ 200) ∧ Below W.heap.size W wr) (fun i _ => l.length - (intOf i).toNat)
            case atStart => exact ⟨0, rfl, Nat.zero_le _, Lib.hid (by intro p hp; cases hp), hB⟩
            case round =>
              clear hB
              obtain ⟨k, rfl, hk, HR, hB⟩ := hrel
              have k7 := cb hB c0_7
              by_cases hkl : k < l.length
              · have hkI : (k : Int) < l.length := by omega
                obtain ⟨b, of, c, he, q0, q1, hin⟩ := HW.out.at' hkl
                cases he
                have q0 := cb hB q0
                have HSTEP := Lib.hid (show (l[k]'hkl).1.size ≤ 200 → ∀ p ∈ l.take (k + 1), p.1.size ≤ 200 from fun h p hp => by
                  rw [List.take_succ_eq_append_getElem hkl] at hp
                  rcases List.mem_append.1 hp with h9 | h9
                  · exact HR.out p h9
                  · obtain rfl := List.mem_singleton.1 h9; exact h)
                clear hin q1
                obtain ⟨p, hp⟩ : ∃ p, l[k]'hkl = p := ⟨_, rfl⟩
                rw [hp] at q0 HSTEP
                clear hp
                by_cases hz : p.1.size ≤ 200
                · have hzI : ¬ (200 : Int) < p.1.size := by omega
                  have hzJ : decide ((200 : Int) < p.1.size) = false := decide_eq_false hzI
                  have HOK := Lib.hid (HSTEP.out hz)
                  go_wp2_with fail
                  go_roundw
                  case rel => exact ⟨k + 1, by simp, by omega, HOK, hB⟩
                  case measure => simp [intOf]; omega
                · have hzI : (200 : Int) < p.1.size := by omega
                  have hzJ : decide ((200 : Int) < p.1.size) = true := decide_eq_true hzI
                  go_wp2_with fail
                  go_ret
                  exact fit_no (bl_from Hw.out hB)
              · obtain rfl : k = l.length := by omega
                have hR := HR.out
                rw [List.take_length] at hR
                have HR2 := Lib.hid hR
                clear hR
                go_wp2_with fail
                go_ret
                exact fit_yes (bl_from Hw.out hB) ⟨h_0, h_1, h_2, h_3, h_4, HR2.out⟩
          · have i_4 : (40 : Int) < l.length := by omega
            have j_4 : decide ((40 : Int) < l.length) = true := decide_eq_true i_4
            go_wp2_with fail
            go_ret
            exact fit_no Hw.out
        · have i_3 : (200 : Int) < cls.size := by omega
          have j_3 : decide ((200 : Int) < cls.size) = true := decide_eq_true i_3
          go_wp2_with fail
          go_ret
          exact fit_no Hw.out
      · have i_2 : (200 : Int) < kn.size := by omega
        have j_2 : decide ((200 : Int) < kn.size) = true := decide_eq_true i_2
        go_wp2_with fail
        go_ret
        exact fit_no Hw.out
    · have i_1 : (200 : Int) < ks.size := by omega
      have j_1 : decide ((200 : Int) < ks.size) = true := decide_eq_true i_1
      go_wp2_with fail
      go_ret
      exact fit_no Hw.out
  · have i_0 : (200 : Int) < kk.size := by omega
    have j_0 : decide ((200 : Int) < kk.size) = true := decide_eq_true i_0
    go_wp2_with fail
    go_ret
    exact fit_no Hw.out
end Go.Proofs.Ythhfcambdmdgfaa
namespace Go.Proofs.Ythhfcambdmdgfaa
open Go.RowKit Go.Maps
set_option linter.unusedVariables false
set_option linter.unusedSimpArgs false
abbrev OX := ObjD × Value
instance : DecidableEq ObjD := fun a b => if h : sameO a b = true then isTrue (objD_ext h) else isFalse (fun e => h (by rw [e]; exact sameO_refl b))
theorem sameO_eq (a b : ObjD) : sameO a b = decide (a = b) := by
  by_cases h : a = b
  · rw [decide_eq_true h, h]; exact sameO_refl b
  · rw [decide_eq_false h]
    cases q : sameO a b with
    | false => rfl
    | true => exact absurd (objD_ext q) h
def objX (p : OX) : List Value := [.string p.1.key.kind, .string p.1.key.space, .string p.1.key.name, .int .i64 p.1.ver, .string p.1.cls, .bool p.1.term, .bool p.1.best, p.2]
def objC (xs : List OX) : List Value := xs.flatMap objX
theorem objC_get : ∀ (l : List OX) (k : Nat) (hk : k < l.length) (j : Nat), j < 8 → (objC l)[k * 8 + j]? = (objX (l[k]'hk))[j]?
  | p :: r, 0, _, j, hj => by
    show (objX p ++ objC r)[0 * 8 + j]? = (objX p)[j]?
    rw [Nat.zero_mul, Nat.zero_add, List.getElem?_append_left (by simp [objX]; exact hj)]
  | p :: r, k + 1, hk, j, hj => by
    show (objX p ++ objC r)[(k + 1) * 8 + j]? = _
    have hl : (objX p).length = 8 := rfl
    rw [List.getElem?_append_right (by rw [hl]; omega), hl, show (k + 1) * 8 + j - 8 = k * 8 + j by omega]
    rw [objC_get r k (by simpa using hk) j hj]
    rfl
theorem objC_app (l : List OX) (p : OX) : objC (l ++ [p]) = objC l ++ objX p := by simp [objC]
def ObjsS (w : World) (v : Value) (xs : List OX) : Prop := SliS w v 8 xs.length (objC xs) ∧ ∀ p ∈ xs, ObjS w p.2 p.1
def oxs (xs : List OX) : List ObjD := xs.map (·.1)
theorem oxs_len (xs : List OX) : (oxs xs).length = xs.length := by simp [oxs]
def OSmall (l : List ObjD) : Prop := ∀ o ∈ l, objSmall o
section
variable {w w' : World} {v : Value} {xs : List OX}
theorem ObjsS.form (h : ObjsS w v xs) : ∃ A c, v = .slice A xs.length c := h.1.form
theorem ObjsS.below (h : ObjsS w v xs) (hb : Below w.heap.size w w') : ObjsS w' v xs := ⟨h.1.below hb, fun p hp => (h.2 p hp).below hb⟩
/-- Cells of one. -/
structure ObjAt (w : World) (b o : Nat) (p : OX) : Prop where
  c0 : w.cell? ⟨b, o, none⟩ = some (.string p.1.key.kind)
  c1 : w.cell? ⟨b, o + 1, none⟩ = some (.string p.1.key.space)
  c2 : w.cell? ⟨b, o + 2, none⟩ = some (.string p.1.key.name)
  c3 : w.cell? ⟨b, o + 3, none⟩ = some (.int .i64 p.1.ver)
  c4 : w.cell? ⟨b, o + 4, none⟩ = some (.string p.1.cls)
  c5 : w.cell? ⟨b, o + 5, none⟩ = some (.bool p.1.term)
  c6 : w.cell? ⟨b, o + 6, none⟩ = some (.bool p.1.best)
  c7 : w.cell? ⟨b, o + 7, none⟩ = some p.2
theorem ObjsS.at' (h : ObjsS w v xs) {k : Nat} (hk : k < xs.length) : ∃ b off c, v = .slice (some ⟨b, off, none⟩) xs.length c ∧ ObjAt w b (off + k * 8) (xs[k]'hk) ∧ ObjS w (xs[k]'hk).2 (xs[k]'hk).1 := by
  obtain ⟨b, off, c, hv, _, hx⟩ := h.1.at' hk
  refine ⟨b, off, c, hv, ?_, h.2 _ (List.getElem_mem hk)⟩
  have g : ∀ j, j < 8 → ∀ u, (objX (xs[k]'hk))[j]? = some u → w.cell? ⟨b, off + k * 8 + j, none⟩ = some u := fun j hj u hu => hx j hj u (by rw [objC_get xs k hk j hj]; exact hu)
  exact ⟨g 0 (by omega) _ rfl, g 1 (by omega) _ rfl, g 2 (by omega) _ rfl, g 3 (by omega) _ rfl, g 4 (by omega) _ rfl, g 5 (by omega) _ rfl, g 6 (by omega) _ rfl, g 7 (by omega) _ rfl⟩
end
theorem ObjAt.below {w w' : World} {b o : Nat} {p : OX} (h : ObjAt w b o p) (hb : Below w.heap.size w w') : ObjAt w' b o p :=
  ⟨cb hb h.c0, cb hb h.c1, cb hb h.c2, cb hb h.c3, cb hb h.c4, cb hb h.c5, cb hb h.c6, cb hb h.c7⟩
theorem small_at {xs : List OX} (h : OSmall (oxs xs)) {k : Nat} (hk : k < xs.length) : objSmall (xs[k]'hk).1 := h _ (List.mem_map.2 ⟨_, List.getElem_mem hk, rfl⟩)
theorem oxs_take {xs : List OX} {k : Nat} (hk : k < xs.length) : (oxs xs).take (k + 1) = (oxs xs).take k ++ [(xs[k]'hk).1] := by
  rw [List.take_succ_eq_append_getElem (by rw [oxs_len]; exact hk)]; simp [oxs]
set_option maxRecDepth 100000 in
set_option maxHeartbeats 8000000 in
theorem robjs_calls (w : World) {u v : Value} {l m : List OX} (hu : ObjsS w u l) (hv : ObjsS w v m) (hl : l.length ≤ 1000000) (hm : m.length ≤ 1000000) (hsl : OSmall (oxs l)) (hsm : OSmall (oxs m)) :
    Calls Try.prog 18 #[u, v] w fun e w' => e = .returned (.bool (decide (oxs l = oxs m))) ∧ Below w.heap.size w w' := by
  have hB := Below.refl w.heap.size w
  have HU := Lib.hid hu
  have HV := Lib.hid hv
  have HSL := Lib.hid hsl; have HSM := Lib.hid hsm
  obtain ⟨au, cu, rfl⟩ := hu.form
  obtain ⟨av, cv, rfl⟩ := hv.form
  clear hu hv hsl hsm
  by_cases hlen : l.length = m.length
  · have HL := Lib.hid hlen
    rw [hlen] at hl ⊢
    rw [hlen] at HU
    have HLM := Lib.hid (show ∀ j (h1 : j < m.length), j < l.length from fun j h => by omega)
    clear hlen
    go_enter Try.func18, Try.ntmps18
    go_wp2
    go_loopw [5] (fun i wr => ∃ k : Nat, i = .int .i64 k ∧ k ≤ m.length ∧ Hid ((oxs l).take k = (oxs m).take k) ∧ Below w.heap.size w wr) (fun i _ => m.length - (intOf i).toNat)
    case atStart => exact ⟨0, rfl, Nat.zero_le _, Lib.hid rfl, hB⟩
    case round =>
      obtain ⟨k, rfl, hk, HT, hB⟩ := hrel
      by_cases hkl : k < m.length
      · have hkI : (k : Int) < m.length := by omega
        have hk2 := HLM.out k hkl
        obtain ⟨b1, o1, d1, he1, q1, s1⟩ := HU.out.at' hk2
        obtain ⟨b2, o2, d2, he2, q2, s2⟩ := HV.out.at' hkl
        rw [HL.out] at he1
        cases he1
        cases he2
        have HX := Lib.hid (oxs_take hk2)
        have HY := Lib.hid (oxs_take hkl)
        have HNE := Lib.hid (show (l[k]'hk2).1 ≠ (m[k]'hkl).1 → oxs l ≠ oxs m from fun h e => h (by
          have e1 : (oxs l)[k]? = some (l[k]'hk2).1 := by simp [oxs, hk2]
          have e2 : (oxs m)[k]? = some (m[k]'hkl).1 := by simp [oxs, hkl]
          rw [e, e2] at e1; exact (Option.some.inj e1).symm))
        have z1 := small_at HSL.out hk2
        have z2 := small_at HSM.out hkl
        generalize l[k]'hk2 = x at q1 s1 z1 HX HNE
        generalize m[k]'hkl = y at q2 s2 z2 HY HNE
        obtain ⟨x1, x2⟩ := x
        obtain ⟨y1, y2⟩ := y
        simp only at s1 s2 z1 z2 HX HY HNE
        obtain ⟨V, rfl⟩ : ∃ V : World, V = wr := ⟨_, rfl⟩
        have HB0 := Lib.hid hB
        have Q1 := Lib.hid (q1.below hB); have Q2 := Lib.hid (q2.below hB)
        have S1 := Lib.hid (s1.below hB); have S2 := Lib.hid (s2.below hB)
        have hz : x1.charge.length ≤ 1000000 ∧ y1.charge.length ≤ 1000000 := by have := z1.2.2.1; have := z2.2.2.1; omega
        clear q1 q2 s1 s2 z1 z2
        have hB := Below.refl V.heap.size V
        have HC := Lib.hid (fun (U : World) (h : Below V.heap.size V U) => rosame_calls U (S1.out.below h) (S2.out.below h) hz)
        clear hz
        unfold objV at HC
        by_cases hxy : x1 = y1
        · have HS := Lib.hid (show sameO x1 y1 = true by rw [sameO_eq]; exact decide_eq_true hxy)
          have HXY := Lib.hid hxy
          clear hxy
          go_upto_region 6 with fail
          have hB := hB.drew
          refine region_seq (fun w' => Below V.heap.size V w') [(0, true), (1, true), (2, true), (3, true), (4, true), (5, true), (6, true), (7, true), (8, false), (9, true)] (by kernel_rfl) (by kernel_rfl) (fun _ _ _ _ h => h) hB ?_
          try generalize World.drew _ = wS at hB ⊢
          refine seq_take (v := ?_) (a' := ?_) (some 18) rfl rfl (by rfl) ?_ ?_ ?_
          rotate_left; rotate_left
          · intro w' hS; go_simp; with_reducible rfl
          · simp only [Act.put, List.setIfInBounds_toArray, List.set_cons_zero, List.set_cons_succ]; rfl
          refine seq_take (v := ?_) (a' := ?_) (some 19) rfl rfl (by rfl) ?_ ?_ ?_
          rotate_left; rotate_left
          · intro w' hS; go_simp; with_reducible rfl
          · simp only [Act.put, List.setIfInBounds_toArray, List.set_cons_zero, List.set_cons_succ]; rfl
          refine seq_take (v := ?_) (a' := ?_) (some 20) rfl rfl (by rfl) ?_ ?_ ?_
          rotate_left; rotate_left
          · intro w' hS; go_simp; with_reducible rfl
          · simp only [Act.put, List.setIfInBounds_toArray, List.set_cons_zero, List.set_cons_succ]; rfl
          refine seq_take (v := ?_) (a' := ?_) (some 21) rfl rfl (by rfl) ?_ ?_ ?_
          rotate_left; rotate_left
          · intro w' hS; have p1 := Q1.out.below hS; have p2 := Q2.out.below hS; have a0 := p1.c0; have a1 := p1.c1; have a2 := p1.c2; have a3 := p1.c3; have a4 := p1.c4; have a5 := p1.c5; have a6 := p1.c6; have a7 := p1.c7; have b0 := p2.c0; have b1 := p2.c1; have b2 := p2.c2; have b3 := p2.c3; have b4 := p2.c4; have b5 := p2.c5; have b6 := p2.c6; have b7 := p2.c7; go_simp; with_reducible rfl
          · simp only [Act.put, List.setIfInBounds_toArray, List.set_cons_zero, List.set_cons_succ]; rfl
          refine seq_take (v := ?_) (a' := ?_) (some 22) rfl rfl (by rfl) ?_ ?_ ?_
          rotate_left; rotate_left
          · intro w' hS; go_simp; with_reducible rfl
          · simp only [Act.put, List.setIfInBounds_toArray, List.set_cons_zero, List.set_cons_succ]; rfl
          refine seq_take (v := ?_) (a' := ?_) (some 23) rfl rfl (by rfl) ?_ ?_ ?_
          rotate_left; rotate_left
          · intro w' hS; go_simp; with_reducible rfl
          · simp only [Act.put, List.setIfInBounds_toArray, List.set_cons_zero, List.set_cons_succ]; rfl
          refine seq_take (v := ?_) (a' := ?_) (some 24) rfl rfl (by rfl) ?_ ?_ ?_
          rotate_left; rotate_left
          · intro w' hS; go_simp; with_reducible rfl
          · simp only [Act.put, List.setIfInBounds_toArray, List.set_cons_zero, List.set_cons_succ]; rfl
          refine seq_take (v := ?_) (a' := ?_) (some 25) rfl rfl (by rfl) ?_ ?_ ?_
          rotate_left; rotate_left
          · intro w' hS; have p1 := Q1.out.below hS; have p2 := Q2.out.below hS; have a0 := p1.c0; have a1 := p1.c1; have a2 := p1.c2; have a3 := p1.c3; have a4 := p1.c4; have a5 := p1.c5; have a6 := p1.c6; have a7 := p1.c7; have b0 := p2.c0; have b1 := p2.c1; have b2 := p2.c2; have b3 := p2.c3; have b4 := p2.c4; have b5 := p2.c5; have b6 := p2.c6; have b7 := p2.c7; go_simp; with_reducible rfl
          · simp only [Act.put, List.setIfInBounds_toArray, List.set_cons_zero, List.set_cons_succ]; rfl
          refine seq_call (args := ?_) Try.func24 (by kernel_rfl) rfl (some 26) rfl rfl (by rfl) rfl ?_ ?_
          rotate_left
          · simp only [List.map_toArray, List.map_cons, List.map_nil]; go_simp; rfl
          with_reducible refine (HC.out _ hB).mono ?_
          rintro e w' ⟨rfl, hb⟩
          rw [HS.out]
          refine ⟨_, rfl, bl_next (by repeat (first | with_reducible exact hB | refine Below.alloc ?_ (by have := hB.size; simp; omega) _ | refine bl_dN ?_ _ | refine Below.drew ?_ | refine Below.setCell ?_ (by have := hB.size; simp; omega) _)) hb, ?_⟩
          have hB := bl_next (by repeat (first | with_reducible exact hB | refine Below.alloc ?_ (by have := hB.size; simp; omega) _ | refine bl_dN ?_ _ | refine Below.drew ?_ | refine Below.setCell ?_ (by have := hB.size; simp; omega) _)) hb; clear hb
          simp only [Act.put, List.setIfInBounds_toArray, List.set_cons_zero, List.set_cons_succ]
          refine seq_take (v := ?_) (a' := ?_) (some 6) rfl rfl (by rfl) ?_ ?_ ?_
          rotate_left; rotate_left
          · intro w' hS; go_simp; with_reducible rfl
          · simp only [Act.put, List.setIfInBounds_toArray, List.set_cons_zero, List.set_cons_succ]; rfl
          refine seq_done ?_
          go_wp2_with fail
          go_roundw
          case rel => exact ⟨k + 1, by simp, by omega, Lib.hid (by rw [HX.out, HY.out, HT.out, HXY.out]), bl_next HB0.out hB⟩
          case measure => simp [intOf]; omega
        · have HS := Lib.hid (show sameO x1 y1 = false by rw [sameO_eq]; exact decide_eq_false hxy)
          have HXY := Lib.hid (HNE.out hxy)
          clear hxy
          go_upto_region 6 with fail
          have hB := hB.drew
          refine region_seq (fun w' => Below V.heap.size V w') [(0, true), (1, true), (2, true), (3, true), (4, true), (5, true), (6, true), (7, true), (8, false), (9, true)] (by kernel_rfl) (by kernel_rfl) (fun _ _ _ _ h => h) hB ?_
          try generalize World.drew _ = wS at hB ⊢
          refine seq_take (v := ?_) (a' := ?_) (some 18) rfl rfl (by rfl) ?_ ?_ ?_
          rotate_left; rotate_left
          · intro w' hS; go_simp; with_reducible rfl
          · simp only [Act.put, List.setIfInBounds_toArray, List.set_cons_zero, List.set_cons_succ]; rfl
          refine seq_take (v := ?_) (a' := ?_) (some 19) rfl rfl (by rfl) ?_ ?_ ?_
          rotate_left; rotate_left
          · intro w' hS; go_simp; with_reducible rfl
          · simp only [Act.put, List.setIfInBounds_toArray, List.set_cons_zero, List.set_cons_succ]; rfl
          refine seq_take (v := ?_) (a' := ?_) (some 20) rfl rfl (by rfl) ?_ ?_ ?_
          rotate_left; rotate_left
          · intro w' hS; go_simp; with_reducible rfl
          · simp only [Act.put, List.setIfInBounds_toArray, List.set_cons_zero, List.set_cons_succ]; rfl
          refine seq_take (v := ?_) (a' := ?_) (some 21) rfl rfl (by rfl) ?_ ?_ ?_
          rotate_left; rotate_left
          · intro w' hS; have p1 := Q1.out.below hS; have p2 := Q2.out.below hS; have a0 := p1.c0; have a1 := p1.c1; have a2 := p1.c2; have a3 := p1.c3; have a4 := p1.c4; have a5 := p1.c5; have a6 := p1.c6; have a7 := p1.c7; have b0 := p2.c0; have b1 := p2.c1; have b2 := p2.c2; have b3 := p2.c3; have b4 := p2.c4; have b5 := p2.c5; have b6 := p2.c6; have b7 := p2.c7; go_simp; with_reducible rfl
          · simp only [Act.put, List.setIfInBounds_toArray, List.set_cons_zero, List.set_cons_succ]; rfl
          refine seq_take (v := ?_) (a' := ?_) (some 22) rfl rfl (by rfl) ?_ ?_ ?_
          rotate_left; rotate_left
          · intro w' hS; go_simp; with_reducible rfl
          · simp only [Act.put, List.setIfInBounds_toArray, List.set_cons_zero, List.set_cons_succ]; rfl
          refine seq_take (v := ?_) (a' := ?_) (some 23) rfl rfl (by rfl) ?_ ?_ ?_
          rotate_left; rotate_left
          · intro w' hS; go_simp; with_reducible rfl
          · simp only [Act.put, List.setIfInBounds_toArray, List.set_cons_zero, List.set_cons_succ]; rfl
          refine seq_take (v := ?_) (a' := ?_) (some 24) rfl rfl (by rfl) ?_ ?_ ?_
          rotate_left; rotate_left
          · intro w' hS; go_simp; with_reducible rfl
          · simp only [Act.put, List.setIfInBounds_toArray, List.set_cons_zero, List.set_cons_succ]; rfl
          refine seq_take (v := ?_) (a' := ?_) (some 25) rfl rfl (by rfl) ?_ ?_ ?_
          rotate_left; rotate_left
          · intro w' hS; have p1 := Q1.out.below hS; have p2 := Q2.out.below hS; have a0 := p1.c0; have a1 := p1.c1; have a2 := p1.c2; have a3 := p1.c3; have a4 := p1.c4; have a5 := p1.c5; have a6 := p1.c6; have a7 := p1.c7; have b0 := p2.c0; have b1 := p2.c1; have b2 := p2.c2; have b3 := p2.c3; have b4 := p2.c4; have b5 := p2.c5; have b6 := p2.c6; have b7 := p2.c7; go_simp; with_reducible rfl
          · simp only [Act.put, List.setIfInBounds_toArray, List.set_cons_zero, List.set_cons_succ]; rfl
          refine seq_call (args := ?_) Try.func24 (by kernel_rfl) rfl (some 26) rfl rfl (by rfl) rfl ?_ ?_
          rotate_left
          · simp only [List.map_toArray, List.map_cons, List.map_nil]; go_simp; rfl
          with_reducible refine (HC.out _ hB).mono ?_
          rintro e w' ⟨rfl, hb⟩
          rw [HS.out]
          refine ⟨_, rfl, bl_next (by repeat (first | with_reducible exact hB | refine Below.alloc ?_ (by have := hB.size; simp; omega) _ | refine bl_dN ?_ _ | refine Below.drew ?_ | refine Below.setCell ?_ (by have := hB.size; simp; omega) _)) hb, ?_⟩
          have hB := bl_next (by repeat (first | with_reducible exact hB | refine Below.alloc ?_ (by have := hB.size; simp; omega) _ | refine bl_dN ?_ _ | refine Below.drew ?_ | refine Below.setCell ?_ (by have := hB.size; simp; omega) _)) hb; clear hb
          simp only [Act.put, List.setIfInBounds_toArray, List.set_cons_zero, List.set_cons_succ]
          refine seq_take (v := ?_) (a' := ?_) (some 6) rfl rfl (by rfl) ?_ ?_ ?_
          rotate_left; rotate_left
          · intro w' hS; go_simp; with_reducible rfl
          · simp only [Act.put, List.setIfInBounds_toArray, List.set_cons_zero, List.set_cons_succ]; rfl
          refine seq_done ?_
          go_wp2_with fail
          go_ret
          exact ⟨ret_bool (by rw [decide_eq_false HXY.out]), bl_next HB0.out hB⟩
      · obtain rfl : k = m.length := by omega
        go_wp2
        go_ret
        exact ⟨ret_bool (by rw [decide_eq_true]; have := HT.out; rw [← oxs_len m, List.take_length, oxs_len, ← HL.out, ← oxs_len l, List.take_length] at this; exact this), hB⟩
  · have hlm : ¬ (l.length = m.length) := hlen
    have HNE := Lib.hid (show oxs l ≠ oxs m from fun e => hlen (by rw [← oxs_len, e, oxs_len]))
    clear hlen
    go_enter Try.func18, Try.ntmps18
    go_wp2
    go_ret
    exact ⟨ret_bool (by rw [decide_eq_false HNE.out]), hB⟩
end Go.Proofs.Ythhfcambdmdgfaa
namespace Go.Proofs.Ythhfcambdmdgfaa
open Go.RowKit Go.Maps
set_option linter.unusedVariables false
set_option linter.unusedSimpArgs false
def kT (k : KeyD) : ByteArray := keyText k.kind k.space k.name
def kTO (o : ObjD) : ByteArray := kT o.key
section
variable {α : Type} {p : α → Bool} {t : α → ByteArray} {l : List α}
/-- Each right, rising. -/
def okL (p : α → Bool) (t : α → ByteArray) (l : List α) : Bool := l.all p && risB (l.map t)
theorem okL_iff : okL p t l = true ↔ (∀ x ∈ l, p x = true) ∧ l.Pairwise (fun x y => ltB (t x) (t y) = true) := by
  unfold okL; rw [Bool.and_eq_true, List.all_eq_true, risB_iff, List.pairwise_map]
end
structure EvD where
  kind : Int
  obj : ObjD
  ver : Int
  objs : List ObjD
def evV (kd : Int) (o : ObjD) (sl : Value) (vr : Int) (ol : Value) : Value := .agg #[.int .i64 kd, .string o.key.kind, .string o.key.space, .string o.key.name, .int .i64 o.ver, .string o.cls, .bool o.term, .bool o.best, sl, .int .i64 vr, ol]
def relP (v : Int) (o : ObjD) : Bool := rightO o && decide (o.ver ≤ v)
def relB (v : Int) (l : List ObjD) : Bool := okL (relP v) kTO l && decide (0 ≤ v) && decide (l.length ≤ 1000)
def rightE (e : EvD) : Bool :=
  if e.kind = 0 then rightO e.obj else if e.kind = 1 then keyOk e.obj.key && decide (1 ≤ e.obj.ver) else if e.kind = 2 then relB e.ver e.objs else if e.kind = 3 then decide (0 ≤ e.ver) else false
def verE (e : EvD) : Int × Int := if rightE e then (if e.kind = 0 ∨ e.kind = 1 then e.obj.ver else e.ver, 0) else (0, 1)
end Go.Proofs.Ythhfcambdmdgfaa
namespace Go.Proofs.Ythhfcambdmdgfaa
open Go.RowKit Go.Maps
set_option linter.unusedVariables false
set_option linter.unusedSimpArgs false
def sameE (a b : EvD) : Bool := sameO a.obj b.obj && decide (a.objs = b.objs) && decide (a.kind = b.kind) && decide (a.ver = b.ver)
theorem sameE_refl (a : EvD) : sameE a a = true := by unfold sameE; simp [sameO_refl]
set_option maxRecDepth 100000 in
set_option maxHeartbeats 8000000 in
theorem revsame_calls (w : World) (kd kd' : Int) {o o' : ObjD} {sl sl' : Value} (vr vr' : Int) {ol ol' : Value} {xs ys : List OX} (ho : ObjS w sl o) (hs : objSmall o) (hx : ObjsS w ol xs) (hxs : OSmall (oxs xs)) (hl : xs.length ≤ 1000000) (ho' : ObjS w sl' o') (hs' : objSmall o') (hx' : ObjsS w ol' ys) (hys : OSmall (oxs ys)) (hl' : ys.length ≤ 1000000) :
    Calls Try.prog 16 #[evV kd o sl vr ol, evV kd' o' sl' vr' ol'] w fun e w' => e = .returned (.bool (sameE ⟨kd, o, vr, oxs xs⟩ ⟨kd', o', vr', oxs ys⟩)) ∧ Below w.heap.size w w' := by
  have HO := Lib.hid ho; have HX := Lib.hid hx; have HSM := Lib.hid hxs; have HS := Lib.hid hs
  have HO' := Lib.hid ho'; have HX' := Lib.hid hx'; have HSM' := Lib.hid hys; have HS' := Lib.hid hs'
  have hch : o.charge.length ≤ 1000000 ∧ o'.charge.length ≤ 1000000 := by have := hs.2.2.1; have := hs'.2.2.1; omega
  obtain ⟨ao, co, rfl⟩ := ho.1.form
  obtain ⟨al, cl, rfl⟩ := hx.form
  obtain ⟨ao', co', rfl⟩ := ho'.1.form
  obtain ⟨al', cl', rfl⟩ := hx'.form
  have HC1 := Lib.hid (fun (U : World) (h : Below w.heap.size w U) => rosame_calls U (HO.out.below h) (HO'.out.below h) hch)
  have HC2 := Lib.hid (fun (U : World) (h : Below w.heap.size w U) => robjs_calls U (HX.out.below h) (HX'.out.below h) hl hl' HSM.out HSM'.out)
  obtain ⟨s1, hs1⟩ : ∃ b, sameO o o' = b := ⟨_, rfl⟩
  obtain ⟨s2, hs2⟩ : ∃ b, decide (oxs xs = oxs ys) = b := ⟨_, rfl⟩
  have HE := Lib.hid (show sameE ⟨kd, o, vr, oxs xs⟩ ⟨kd', o', vr', oxs ys⟩ = (s1 && s2 && decide (kd = kd') && decide (vr = vr')) by rw [← hs1, ← hs2]; rfl)
  have HS1 := Lib.hid hs1; have HS2 := Lib.hid hs2
  clear ho hx hxs hs hl ho' hx' hys hs' hl' hch hs1 hs2
  unfold objV at HC1
  unfold evV
  go_enter Try.func16, Try.ntmps16
  go_upto_region 1 with fail
  first | with_reducible refine name_wp ?_ | with_reducible refine name_calls ?_
  intro W hWeq
  have g0 : W.heap[w.heap.size]? = some (.cells #[.int .i64 kd, .string o.key.kind, .string o.key.space, .string o.key.name, .int .i64 o.ver, .string o.cls, .bool o.term, .bool o.best, .slice ao o.charge.length co, .int .i64 vr, .slice al xs.length cl] 30) := by rw [hWeq]; repeat (first | (with_reducible exact blk_newAt _ _ (by simp)) | with_reducible refine blk_drew ?_ | with_reducible refine blk_dN ?_ _ | with_reducible refine blk_old ?_ _)
  have g1 : W.heap[w.heap.size + 1]? = some (.cells #[.int .i64 kd', .string o'.key.kind, .string o'.key.space, .string o'.key.name, .int .i64 o'.ver, .string o'.cls, .bool o'.term, .bool o'.best, .slice ao' o'.charge.length co', .int .i64 vr', .slice al' ys.length cl'] 30) := by rw [hWeq]; repeat (first | (with_reducible exact blk_newAt _ _ (by simp)) | with_reducible refine blk_drew ?_ | with_reducible refine blk_dN ?_ _ | with_reducible refine blk_old ?_ _)
  have hw : Below w.heap.size w W := by rw [hWeq]; repeat (first | with_reducible exact Below.refl _ _ | with_reducible refine Below.drew ?_ | with_reducible refine bl_dN ?_ _ | with_reducible refine Below.alloc ?_ (by simp <;> omega) _)
  clear hWeq
  have hz : w.heap.size + 2 ≤ W.heap.size := by have := blk_lt g1; omega
  have c0_0 : W.cell? ⟨w.heap.size, 0, none⟩ = some (.int .i64 kd) := blk_cell g0 0
  have c0_1 : W.cell? ⟨w.heap.size, 1, none⟩ = some (.string o.key.kind) := blk_cell g0 1
  have c0_2 : W.cell? ⟨w.heap.size, 2, none⟩ = some (.string o.key.space) := blk_cell g0 2
  have c0_3 : W.cell? ⟨w.heap.size, 3, none⟩ = some (.string o.key.name) := blk_cell g0 3
  have c0_4 : W.cell? ⟨w.heap.size, 4, none⟩ = some (.int .i64 o.ver) := blk_cell g0 4
  have c0_5 : W.cell? ⟨w.heap.size, 5, none⟩ = some (.string o.cls) := blk_cell g0 5
  have c0_6 : W.cell? ⟨w.heap.size, 6, none⟩ = some (.bool o.term) := blk_cell g0 6
  have c0_7 : W.cell? ⟨w.heap.size, 7, none⟩ = some (.bool o.best) := blk_cell g0 7
  have c0_8 : W.cell? ⟨w.heap.size, 8, none⟩ = some (.slice ao o.charge.length co) := blk_cell g0 8
  have c0_9 : W.cell? ⟨w.heap.size, 9, none⟩ = some (.int .i64 vr) := blk_cell g0 9
  have c0_10 : W.cell? ⟨w.heap.size, 10, none⟩ = some (.slice al xs.length cl) := blk_cell g0 10
  have f0 : ∀ j, W.frozen? ⟨w.heap.size, j, none⟩ = false := blk_free g0
  have c1_0 : W.cell? ⟨w.heap.size + 1, 0, none⟩ = some (.int .i64 kd') := blk_cell g1 0
  have c1_1 : W.cell? ⟨w.heap.size + 1, 1, none⟩ = some (.string o'.key.kind) := blk_cell g1 1
  have c1_2 : W.cell? ⟨w.heap.size + 1, 2, none⟩ = some (.string o'.key.space) := blk_cell g1 2
  have c1_3 : W.cell? ⟨w.heap.size + 1, 3, none⟩ = some (.string o'.key.name) := blk_cell g1 3
  have c1_4 : W.cell? ⟨w.heap.size + 1, 4, none⟩ = some (.int .i64 o'.ver) := blk_cell g1 4
  have c1_5 : W.cell? ⟨w.heap.size + 1, 5, none⟩ = some (.string o'.cls) := blk_cell g1 5
  have c1_6 : W.cell? ⟨w.heap.size + 1, 6, none⟩ = some (.bool o'.term) := blk_cell g1 6
  have c1_7 : W.cell? ⟨w.heap.size + 1, 7, none⟩ = some (.bool o'.best) := blk_cell g1 7
  have c1_8 : W.cell? ⟨w.heap.size + 1, 8, none⟩ = some (.slice ao' o'.charge.length co') := blk_cell g1 8
  have c1_9 : W.cell? ⟨w.heap.size + 1, 9, none⟩ = some (.int .i64 vr') := blk_cell g1 9
  have c1_10 : W.cell? ⟨w.heap.size + 1, 10, none⟩ = some (.slice al' ys.length cl') := blk_cell g1 10
  have f1 : ∀ j, W.frozen? ⟨w.heap.size + 1, j, none⟩ = false := blk_free g1
  have hB : Below W.heap.size W W := Below.refl _ _
  have G0 := Lib.hid g0; clear g0
  have F0 := Lib.hid f0; clear f0
  have G1 := Lib.hid g1; clear g1
  have F1 := Lib.hid f1; clear f1
  have Hw := Lib.hid hw; clear hw
  go_upto_region 3 with (first | (go_at_call 24; ((with_reducible refine (HC1.out _ Hw.out).mono ?_); rintro e w' ⟨rfl, hb⟩; rw [HS1.out]; have hB := bl_next hB hb; clear hb; have k0_0 := cb hB c0_0; have k0_1 := cb hB c0_1; have k0_2 := cb hB c0_2; have k0_3 := cb hB c0_3; have k0_4 := cb hB c0_4; have k0_5 := cb hB c0_5; have k0_6 := cb hB c0_6; have k0_7 := cb hB c0_7; have k0_8 := cb hB c0_8; have k0_9 := cb hB c0_9; have k0_10 := cb hB c0_10; have k1_0 := cb hB c1_0; have k1_1 := cb hB c1_1; have k1_2 := cb hB c1_2; have k1_3 := cb hB c1_3; have k1_4 := cb hB c1_4; have k1_5 := cb hB c1_5; have k1_6 := cb hB c1_6; have k1_7 := cb hB c1_7; have k1_8 := cb hB c1_8; have k1_9 := cb hB c1_9; have k1_10 := cb hB c1_10)) | (go_at_call 18; ((with_reducible refine (HC2.out _ (bl_from Hw.out hB)).mono ?_); rintro e w' ⟨rfl, hb⟩; rw [HS2.out]; have hB := bl_next hB hb; have k0_0 := cb hb k0_0; have k0_1 := cb hb k0_1; have k0_2 := cb hb k0_2; have k0_3 := cb hb k0_3; have k0_4 := cb hb k0_4; have k0_5 := cb hb k0_5; have k0_6 := cb hb k0_6; have k0_7 := cb hb k0_7; have k0_8 := cb hb k0_8; have k0_9 := cb hb k0_9; have k0_10 := cb hb k0_10; have k1_0 := cb hb k1_0; have k1_1 := cb hb k1_1; have k1_2 := cb hb k1_2; have k1_3 := cb hb k1_3; have k1_4 := cb hb k1_4; have k1_5 := cb hb k1_5; have k1_6 := cb hb k1_6; have k1_7 := cb hb k1_7; have k1_8 := cb hb k1_8; have k1_9 := cb hb k1_9; have k1_10 := cb hb k1_10; clear hb)))
  cases s1 with
  | false =>
    go_wp2
    go_ret
    exact ⟨ret_bool (by rw [HE.out]; rfl), bl_from Hw.out hB⟩
  | true =>
    cases s2 with
    | false =>
      go_wp2
      go_ret
      exact ⟨ret_bool (by rw [HE.out]; rfl), bl_from Hw.out hB⟩
    | true =>
      by_cases hkk : kd = kd'
      · subst hkk
        go_wp2
        go_ret
        exact ⟨ret_bool (by rw [HE.out, Bool.eq_iff_iff]; simp), bl_from Hw.out hB⟩
      · have HN := Lib.hid hkk
        have hkb : (kd == kd') = false := by simpa using hkk
        go_wp2
        go_ret
        exact ⟨ret_bool (by rw [HE.out, decide_eq_false HN.out]; rfl), bl_from Hw.out hB⟩
theorem fit_small' {o : ObjD} (h : o.key.kind.size ≤ 200 ∧ o.key.space.size ≤ 200 ∧ o.key.name.size ≤ 200 ∧ o.cls.size ≤ 200 ∧ o.charge.length ≤ 40 ∧ ∀ p ∈ o.charge, p.1.size ≤ 200) : objSmall o :=
  ⟨⟨by omega, by omega, by omega⟩, by omega, by omega, fun p hp => Nat.le_trans (h.2.2.2.2.2 p hp) (by omega)⟩
end Go.Proofs.Ythhfcambdmdgfaa
namespace Go.Proofs.Ythhfcambdmdgfaa.Srt
set_option linter.unusedVariables false
set_option linter.unusedSectionVars false
set_option linter.unusedSimpArgs false
structure TO {κ : Type} (lt : κ → κ → Bool) : Prop where
  irr : ∀ x, lt x x = false
  tr : ∀ x y z, lt x y = true → lt y z = true → lt x z = true
  tot : ∀ x y, lt x y = false → lt y x = false → x = y
section
variable {κ : Type} {lt : κ → κ → Bool}
theorem TO.asym (h : TO lt) {x y : κ} (q : lt x y = true) : lt y x = false := by
  cases e : lt y x with
  | false => rfl
  | true => have := h.tr _ _ _ q e; rw [h.irr] at this; cases this
/-- Not behind, then not behind. -/
theorem TO.le_tr (h : TO lt) {x y z : κ} (q : lt y x = false) (r : lt z y = false) : lt z x = false := by
  cases e : lt z x with
  | false => rfl
  | true =>
    cases f : lt x y with
    | true => rw [h.tr _ _ _ e f] at r; cases r
    | false => have := h.tot x y f q; subst this; rw [e] at r; cases r
theorem TO.lt_le (h : TO lt) {x y z : κ} (q : lt x y = true) (r : lt z y = false) : lt x z = true := by
  cases e : lt x z with
  | true => rfl
  | false => rw [h.le_tr r e] at q; cases q
theorem TO.le_lt (h : TO lt) {x y z : κ} (q : lt y x = false) (r : lt y z = true) : lt x z = true := by
  cases e : lt x z with
  | true => rfl
  | false => rw [h.le_tr e q] at r; cases r
end
section
variable {α κ : Type} [DecidableEq κ] {K : α → κ} {lt : κ → κ → Bool}
def rowF (d : Nat → α) (n : Nat) : List α := (List.range n).map d
theorem rowF_len (d : Nat → α) (n : Nat) : (rowF d n).length = n := by simp [rowF]
theorem rowF_get (d : Nat → α) (n : Nat) {i : Nat} (h : i < n) : (rowF d n)[i]? = some (d i) := by simp [rowF, h]
/-- A piece. -/
def pc (d : Nat → α) (a b : Nat) : List α := (List.range' a (b - a)).map d
theorem pc_app (d : Nat → α) {a b c : Nat} (h1 : a ≤ b) (h2 : b ≤ c) : pc d a c = pc d a b ++ pc d b c := by
  unfold pc
  rw [← List.map_append]
  congr 1
  have := List.range'_append_1 (s := a) (m := b - a) (n := c - b)
  rw [show a + (b - a) = b by omega, show b - a + (c - b) = c - a by omega] at this
  exact this.symm
theorem rowF_pc (d : Nat → α) (n : Nat) : rowF d n = pc d 0 n := by unfold rowF pc; rw [List.range_eq_range', Nat.sub_zero]
theorem mem_pc {d : Nat → α} {a b : Nat} {x : α} : x ∈ pc d a b ↔ ∃ i, a ≤ i ∧ i < b ∧ d i = x := by
  unfold pc
  simp only [List.mem_map, List.mem_range'_1]
  exact ⟨fun ⟨i, h1, h2⟩ => ⟨i, h1.1, by omega, h2⟩, fun ⟨i, h1, h2, h3⟩ => ⟨i, ⟨h1, by omega⟩, h3⟩⟩
theorem pc_shift {d e : Nat → α} {a b c : Nat} (h : ∀ i, i < b - a → e (c + i) = d (a + i)) : pc e c (c + (b - a)) = pc d a b := by
  unfold pc
  rw [show c + (b - a) - c = b - a by omega]
  apply List.ext_getElem?
  intro i
  simp only [List.getElem?_map]
  by_cases hi : i < b - a
  · rw [List.getElem?_range' hi, List.getElem?_range' hi]
    simp [h i hi]
  · rw [List.getElem?_eq_none (by simp; omega), List.getElem?_eq_none (by simp; omega)]; rfl
theorem pc_same {d e : Nat → α} {a b : Nat} (h : ∀ i, a ≤ i → i < b → e i = d i) : pc e a b = pc d a b := by
  by_cases hab : a ≤ b
  · have := pc_shift (d := d) (e := e) (a := a) (b := b) (c := a) (fun i hi => h _ (by omega) (by omega))
    rwa [show a + (b - a) = b by omega] at this
  · unfold pc; rw [show b - a = 0 by omega]; rfl
/-- Two at a time. -/
def swF (d : Nat → α) (x y : Nat) : Nat → α := fun i => if i = x then d y else if i = y then d x else d i
def swR (d : Nat → α) (a b n : Nat) : Nat → α := fun i => if a ≤ i ∧ i < a + n then d (i - a + b) else if b ≤ i ∧ i < b + n then d (i - b + a) else d i
def rot (d : Nat → α) (s m e : Nat) : Nat → α := fun i => if s ≤ i ∧ i < e then (if i < s + (e - m) then d (i + (m - s)) else d (i - (e - m))) else d i
theorem swR_zero (d : Nat → α) (a b : Nat) : swR d a b 0 = d := by
  funext i; unfold swR; rw [if_neg (by omega), if_neg (by omega)]
theorem swR_succ (d : Nat → α) {a b n : Nat} (h : a + n < b) : swF (swR d a b n) (a + n) (b + n) = swR d a b (n + 1) := by
  funext i
  unfold swF swR
  by_cases h1 : i = a + n
  · subst h1
    rw [if_pos rfl, if_neg (by omega), if_neg (by omega), if_pos (by omega)]; congr 1; omega
  · rw [if_neg h1]
    by_cases h2 : i = b + n
    · subst h2
      rw [if_pos rfl, if_neg (by omega), if_neg (by omega), if_neg (by omega), if_pos (by omega)]; congr 1; omega
    · rw [if_neg h2]
      by_cases h3 : a ≤ i ∧ i < a + n
      · rw [if_pos h3, if_pos (show a ≤ i ∧ i < a + (n + 1) by omega)]
      · rw [if_neg h3, if_neg (show ¬ (a ≤ i ∧ i < a + (n + 1)) by omega)]
        by_cases h4 : b ≤ i ∧ i < b + n
        · rw [if_pos h4, if_pos (show b ≤ i ∧ i < b + (n + 1) by omega)]
        · rw [if_neg h4, if_neg (show ¬ (b ≤ i ∧ i < b + (n + 1)) by omega)]
theorem rot_left (d : Nat → α) {m i j : Nat} (hi : i ≤ m) (hj : j < i) : rot (swR d (m - i) m j) (m - (i - j)) m (m + j) = rot d (m - i) m (m + j) := by
  funext x
  unfold rot swR
  by_cases h1 : m - (i - j) ≤ x ∧ x < m + j
  · rw [if_pos h1, if_pos (show m - i ≤ x ∧ x < m + j by omega)]
    by_cases h2 : x < m - (i - j) + (m + j - m)
    · rw [if_pos h2, if_neg (show ¬ x < m - i + (m + j - m) by omega), if_neg (by omega), if_pos (by omega)]; congr 1; omega
    · rw [if_neg h2, if_neg (show ¬ x < m - i + (m + j - m) by omega), if_neg (by omega), if_neg (by omega)]
  · rw [if_neg h1]
    by_cases h2 : m - i ≤ x ∧ x < m + j
    · rw [if_pos h2, if_pos (show m - i ≤ x ∧ x < m - i + j by omega), if_pos (by omega)]; congr 1; omega
    · rw [if_neg h2, if_neg (by omega), if_neg (by omega)]
theorem rot_right (d : Nat → α) {m i j : Nat} (hi : i ≤ m) (hj : i < j) : rot (swR d (m - i) (m + j - i) i) (m - i) m (m + (j - i)) = rot d (m - i) m (m + j) := by
  funext x
  unfold rot swR
  by_cases h1 : m - i ≤ x ∧ x < m + (j - i)
  · rw [if_pos h1, if_pos (show m - i ≤ x ∧ x < m + j by omega)]
    by_cases h2 : x < m - i + (m + (j - i) - m)
    · rw [if_pos h2, if_pos (show x < m - i + (m + j - m) by omega), if_neg (by omega), if_neg (by omega)]
    · rw [if_neg h2, if_pos (show x < m - i + (m + j - m) by omega), if_pos (by omega)]; congr 1; omega
  · rw [if_neg h1]
    by_cases h2 : m - i ≤ x ∧ x < m + j
    · rw [if_pos h2, if_neg (by omega), if_pos (show m + j - i ≤ x ∧ x < m + j - i + i by omega), if_neg (by omega)]; congr 1; omega
    · rw [if_neg h2, if_neg (by omega), if_neg (by omega)]
theorem rot_even (d : Nat → α) {m i : Nat} (hi : i ≤ m) : swR d (m - i) m i = rot d (m - i) m (m + i) := by
  funext x
  unfold rot swR
  by_cases h1 : m - i ≤ x ∧ x < m - i + i
  · rw [if_pos h1, if_pos (by omega), if_pos (by omega)]; congr 1; omega
  · rw [if_neg h1]
    by_cases h2 : m ≤ x ∧ x < m + i
    · rw [if_pos h2, if_pos (by omega), if_neg (by omega)]; congr 1; omega
    · rw [if_neg h2, if_neg (by omega)]
theorem rot_nilL (d : Nat → α) {s e : Nat} (h : s ≤ e) : rot d s s e = d := by
  funext x; unfold rot
  by_cases h1 : s ≤ x ∧ x < e
  · rw [if_pos h1, if_pos (by omega)]; congr 1; omega
  · rw [if_neg h1]
theorem rot_nilR (d : Nat → α) {s m : Nat} (h : s ≤ m) : rot d s m m = d := by
  funext x; unfold rot
  by_cases h1 : s ≤ x ∧ x < m
  · rw [if_pos h1, if_neg (by omega)]; congr 1; omega
  · rw [if_neg h1]
/-- One up. -/
theorem rot_up (d : Nat → α) {a k : Nat} (h : a ≤ k) : swF (rot d a (a + 1) (k + 1)) k (k + 1) = rot d a (a + 1) (k + 2) := by
  funext x
  unfold swF rot
  by_cases h1 : x = k
  · subst h1; rw [if_pos rfl, if_neg (by omega), if_pos (by omega), if_pos (by omega)]; congr 1; omega
  · rw [if_neg h1]
    by_cases h2 : x = k + 1
    · subst h2; rw [if_pos rfl, if_pos (by omega), if_neg (by omega), if_pos (by omega), if_neg (by omega)]; congr 1; omega
    · rw [if_neg h2]
      by_cases h3 : a ≤ x ∧ x < k + 1
      · rw [if_pos h3, if_pos (by omega), if_pos (by omega), if_pos (by omega)]
      · rw [if_neg h3, if_neg (by omega)]
/-- One down. -/
theorem rot_down (d : Nat → α) {k m : Nat} (h : k < m) : swF (rot d (k + 1) m (m + 1)) (k + 1) k = rot d k m (m + 1) := by
  funext x
  unfold swF rot
  by_cases h1 : x = k + 1
  · subst h1; rw [if_pos rfl, if_neg (by omega), if_pos (by omega), if_neg (by omega)]; congr 1; omega
  · rw [if_neg h1]
    by_cases h2 : x = k
    · subst h2; rw [if_pos rfl, if_pos (by omega), if_pos (by omega), if_pos (by omega), if_pos (by omega)]; congr 1; omega
    · rw [if_neg h2]
      by_cases h3 : k + 1 ≤ x ∧ x < m + 1
      · rw [if_pos h3, if_neg (by omega), if_pos (by omega), if_neg (by omega)]
      · rw [if_neg h3, if_neg (by omega)]
theorem rot_out (d : Nat → α) (s m e : Nat) {i : Nat} (h : i < s ∨ e ≤ i) : rot d s m e i = d i := by unfold rot; rw [if_neg (by omega)]
/-- In pieces. -/
theorem pc_rot (d : Nat → α) {s m e n : Nat} (h1 : s ≤ m) (h2 : m ≤ e) (h3 : e ≤ n) : pc (rot d s m e) 0 n = pc d 0 s ++ pc d m e ++ pc d s m ++ pc d e n := by
  rw [pc_app (rot d s m e) (Nat.zero_le s) (show s ≤ n by omega), pc_app (rot d s m e) (show s ≤ s + (e - m) by omega) (show s + (e - m) ≤ n by omega), pc_app (rot d s m e) (show s + (e - m) ≤ e by omega) h3]
  rw [pc_same (d := d) (a := 0) (b := s) (fun i _ hi => rot_out d s m e (.inl hi)), pc_same (d := d) (a := e) (b := n) (fun i hi _ => rot_out d s m e (.inr hi))]
  rw [pc_shift (d := d) (e := rot d s m e) (a := m) (b := e) (c := s) (fun i hi => by unfold rot; rw [if_pos (by omega), if_pos (by omega)]; congr 1; omega)]
  have := pc_shift (d := d) (e := rot d s m e) (a := s) (b := m) (c := s + (e - m)) (fun i hi => by unfold rot; rw [if_pos (by omega), if_neg (by omega)]; congr 1; omega)
  rw [show s + (e - m) + (m - s) = e by omega] at this
  rw [this]
  simp [List.append_assoc]
/-- Each class in its own order. -/
def Stab (K : α → κ) (l m : List α) : Prop := ∀ c, l.filter (fun x => decide (K x = c)) = m.filter (fun x => decide (K x = c))
theorem Stab.refl (l : List α) : Stab K l l := fun _ => rfl
theorem Stab.trans {l m o : List α} (h : Stab K l m) (k : Stab K m o) : Stab K l o := fun c => (h c).trans (k c)
theorem Stab.mem {l m : List α} (h : Stab K l m) {x : α} : x ∈ l ↔ x ∈ m := by
  have e : ∀ q : List α, x ∈ q ↔ x ∈ q.filter (fun y => decide (K y = K x)) := fun q => by simp
  rw [e l, e m, h (K x)]
theorem stab_app {l m l' m' : List α} (h : Stab K l l') (k : Stab K m m') : Stab K (l ++ m) (l' ++ m') := fun c => by rw [List.filter_append, List.filter_append, h c, k c]
theorem stab_swap {X Y : List α} (h : ∀ x ∈ X, ∀ y ∈ Y, K x ≠ K y) : Stab K (X ++ Y) (Y ++ X) := fun c => by
  rw [List.filter_append, List.filter_append]
  by_cases hX : X.filter (fun x => decide (K x = c)) = []
  · rw [hX]; simp
  · have hY : Y.filter (fun x => decide (K x = c)) = [] := by
      rw [List.filter_eq_nil_iff]
      intro y hy hyc
      obtain ⟨x, hx⟩ := List.exists_mem_of_ne_nil _ hX
      rw [List.mem_filter] at hx
      exact h x hx.1 y hy (by simp at hyc hx; rw [hx.2, hyc])
    rw [hY]; simp
theorem stab_rot (d : Nat → α) {s m e n : Nat} (h1 : s ≤ m) (h2 : m ≤ e) (h3 : e ≤ n) (h : ∀ i j, s ≤ i → i < m → m ≤ j → j < e → K (d i) ≠ K (d j)) : Stab K (rowF d n) (rowF (rot d s m e) n) := by
  rw [rowF_pc, rowF_pc, pc_rot d h1 h2 h3, pc_app d (Nat.zero_le s) (show s ≤ n by omega), pc_app d h1 (show m ≤ n by omega), pc_app d h2 h3]
  have hs := stab_swap (K := K) (X := pc d s m) (Y := pc d m e) (fun x hx y hy => by
    obtain ⟨i, h4, h5, rfl⟩ := mem_pc.1 hx
    obtain ⟨j, h6, h7, rfl⟩ := mem_pc.1 hy
    exact h i j h4 h5 h6 h7)
  have := stab_app (Stab.refl (K := K) (pc d 0 s)) (stab_app hs (Stab.refl (K := K) (pc d e n)))
  simpa [List.append_assoc] using this
def SrtF (K : α → κ) (lt : κ → κ → Bool) (d : Nat → α) (a b : Nat) : Prop := ∀ i j, a ≤ i → i < j → j < b → lt (K (d j)) (K (d i)) = false
/-- What a piece of work may do. -/
structure Wk (K : α → κ) (n : Nat) (d d' : Nat → α) (a b : Nat) : Prop where
  out : ∀ i, i < a ∨ b ≤ i → d' i = d i
  stab : Stab K (rowF d n) (rowF d' n)
theorem Wk.refl {n : Nat} (d : Nat → α) (a b : Nat) : Wk K n d d a b := ⟨fun _ _ => rfl, Stab.refl _⟩
theorem Wk.trans {n : Nat} {d e f : Nat → α} {a b : Nat} (h : Wk K n d e a b) (k : Wk K n e f a b) : Wk K n d f a b := ⟨fun i hi => (k.out i hi).trans (h.out i hi), h.stab.trans k.stab⟩
theorem Wk.wider {n : Nat} {d e : Nat → α} {a b a' b' : Nat} (h : Wk K n d e a b) (ha : a' ≤ a) (hb : b ≤ b') : Wk K n d e a' b' := ⟨fun i hi => h.out i (by omega), h.stab⟩
/-- The piece itself is in its classes' order. -/
theorem Wk.piece {n : Nat} {d e : Nat → α} {a b : Nat} (h : Wk K n d e a b) (hab : a ≤ b) (hb : b ≤ n) : Stab K (pc d a b) (pc e a b) := by
  intro c
  have := h.stab c
  rw [rowF_pc, rowF_pc, pc_app d (Nat.zero_le a) (show a ≤ n by omega), pc_app d hab hb, pc_app e (Nat.zero_le a) (show a ≤ n by omega), pc_app e hab hb,
    pc_same (d := d) (e := e) (a := 0) (b := a) (fun i _ hi => h.out i (.inl hi)), pc_same (d := d) (e := e) (a := b) (b := n) (fun i hi _ => h.out i (.inr hi))] at this
  simp only [List.filter_append] at this
  exact List.append_cancel_right (List.append_cancel_left this)
theorem Wk.all {n : Nat} {d e : Nat → α} {a b : Nat} (h : Wk K n d e a b) (hb : b ≤ n) {p : α → Prop} (hp : ∀ i, a ≤ i → i < b → p (d i)) : ∀ i, a ≤ i → i < b → p (e i) := by
  intro i h1 h2
  have hm : e i ∈ pc e a b := mem_pc.2 ⟨i, h1, h2, rfl⟩
  obtain ⟨j, h3, h4, h5⟩ := mem_pc.1 (((h.piece (by omega) hb).mem).2 hm)
  rw [← h5]; exact hp j h3 h4
/-- Two halves in order, one not behind the other. -/
theorem srt_join {d : Nat → α} {a m b : Nat} (h1 : SrtF K lt d a m) (h2 : SrtF K lt d m b) (h : ∀ i j, a ≤ i → i < m → m ≤ j → j < b → lt (K (d j)) (K (d i)) = false) : SrtF K lt d a b := by
  intro i j hi hij hj
  by_cases q : j < m
  · exact h1 i j hi hij q
  · by_cases r : i < m
    · exact h i j hi r (by omega) hj
    · exact h2 i j (by omega) hij hj
theorem srt_same {d e : Nat → α} {a b : Nat} (h : SrtF K lt d a b) (he : ∀ i, a ≤ i → i < b → e i = d i) : SrtF K lt e a b := by
  intro i j hi hij hj; rw [he i hi (by omega), he j (by omega) hj]; exact h i j hi hij hj
theorem srt_sub {d : Nat → α} {a b a' b' : Nat} (h : SrtF K lt d a b) (ha : a ≤ a') (hb : b' ≤ b) : SrtF K lt d a' b' := fun i j hi hij hj => h i j (by omega) hij (by omega)
/-- Sorted, in their classes' order: there is one. -/
theorem srt_unique (T : TO lt) : ∀ (l m : List α), l.Pairwise (fun x y => lt (K y) (K x) = false) → m.Pairwise (fun x y => lt (K y) (K x) = false) → Stab K l m → l = m
  | [], [], _, _, _ => rfl
  | [], y :: r, _, _, h => by have := h (K y); simp at this
  | x :: r, [], _, _, h => by have := h (K x); simp at this
  | x :: r, y :: s, h1, h2, h => by
    have hx : K x = K y := by
      have mx : x ∈ y :: s := h.mem.1 (by simp)
      have my : y ∈ x :: r := h.mem.2 (by simp)
      rw [List.pairwise_cons] at h1 h2
      refine T.tot _ _ ?_ ?_
      · rcases List.mem_cons.1 mx with e | e
        · rw [e]; exact T.irr _
        · exact h2.1 x e
      · rcases List.mem_cons.1 my with e | e
        · rw [e]; exact T.irr _
        · exact h1.1 y e
    have h0 := h (K x)
    rw [List.filter_cons, List.filter_cons, if_pos (by simp), if_pos (by simp [hx])] at h0
    have hxy : x = y := (List.cons.inj h0).1
    subst hxy
    rw [List.pairwise_cons] at h1 h2
    rw [srt_unique T r s h1.2 h2.2 (fun c => by
      have := h c
      rw [List.filter_cons, List.filter_cons] at this
      by_cases q : K x = c
      · rw [if_pos (by simpa using q), if_pos (by simpa using q)] at this; exact (List.cons.inj this).2
      · rw [if_neg (by simpa using q), if_neg (by simpa using q)] at this; exact this)]
theorem srt_row {d : Nat → α} {n : Nat} (h : SrtF K lt d 0 n) : (rowF d n).Pairwise (fun x y => lt (K y) (K x) = false) := by
  rw [List.pairwise_iff_getElem]
  intro i j hi hj hij
  rw [rowF_len] at hi hj
  have e1 := rowF_get d n hi; have e2 := rowF_get d n hj
  rw [List.getElem?_eq_getElem (by rw [rowF_len]; exact hi)] at e1
  rw [List.getElem?_eq_getElem (by rw [rowF_len]; exact hj)] at e2
  rw [Option.some.inj e1, Option.some.inj e2]
  exact h i j (Nat.zero_le _) hij hj
/-- What the search of the one ahead has found: [m, i) are ahead of d a, the others are not. -/
theorem merge_one {n : Nat} {d : Nat → α} (T : TO lt) {a i b : Nat} (h1 : a + 1 ≤ i) (h2 : i ≤ b) (hb : b ≤ n) (hs : SrtF K lt d (a + 1) b)
    (hl : ∀ j, a + 1 ≤ j → j < i → lt (K (d j)) (K (d a)) = true) (hr : ∀ j, i ≤ j → j < b → lt (K (d j)) (K (d a)) = false) : Wk K n d (rot d a (a + 1) i) a b ∧ SrtF K lt (rot d a (a + 1) i) a b := by
  refine ⟨⟨fun x hx => rot_out _ _ _ _ (by omega), stab_rot d (by omega) h1 (by omega) (fun x y h3 h4 h5 h6 => ?_)⟩, ?_⟩
  · obtain rfl : x = a := by omega
    intro e
    have := hl y h5 h6
    rw [e, T.irr] at this; cases this
  · have g : ∀ x, a ≤ x → x < b → (x < i - 1 ∧ rot d a (a + 1) i x = d (x + 1)) ∨ (x = i - 1 ∧ rot d a (a + 1) i x = d a) ∨ (i ≤ x ∧ rot d a (a + 1) i x = d x) := fun x h3 h4 => by
      by_cases q : x < i - 1
      · left; refine ⟨q, ?_⟩; unfold rot; rw [if_pos (by omega), if_pos (by omega)]; congr 1; omega
      · by_cases r : x = i - 1
        · right; left; refine ⟨r, ?_⟩; unfold rot; rw [if_pos (by omega), if_neg (by omega)]; congr 1; omega
        · right; right; exact ⟨by omega, rot_out _ _ _ _ (by omega)⟩
    intro x y hx hxy hy
    rcases g x hx (by omega) with ⟨q1, q2⟩ | ⟨q1, q2⟩ | ⟨q1, q2⟩ <;> rcases g y (by omega) hy with ⟨r1, r2⟩ | ⟨r1, r2⟩ | ⟨r1, r2⟩ <;> rw [q2, r2]
    · exact hs _ _ (by omega) (by omega) (by omega)
    · exact T.asym (hl _ (by omega) (by omega))
    · exact hs _ _ (by omega) (by omega) (by omega)
    · omega
    · omega
    · exact hr _ (by omega) hy
    · omega
    · omega
    · exact hs _ _ (by omega) hxy hy
theorem merge_last {n : Nat} {d : Nat → α} (T : TO lt) {a i m : Nat} (h1 : a ≤ i) (h2 : i ≤ m) (hb : m + 1 ≤ n) (hs : SrtF K lt d a m)
    (hl : ∀ j, a ≤ j → j < i → lt (K (d m)) (K (d j)) = false) (hr : ∀ j, i ≤ j → j < m → lt (K (d m)) (K (d j)) = true) : Wk K n d (rot d i m (m + 1)) a (m + 1) ∧ SrtF K lt (rot d i m (m + 1)) a (m + 1) := by
  refine ⟨⟨fun x hx => rot_out _ _ _ _ (by omega), stab_rot d (by omega) (by omega) (by omega) (fun x y h3 h4 h5 h6 => ?_)⟩, ?_⟩
  · obtain rfl : y = m := by omega
    intro e
    have := hr x h3 h4
    rw [e, T.irr] at this; cases this
  · have g : ∀ x, a ≤ x → x < m + 1 → (x < i ∧ rot d i m (m + 1) x = d x) ∨ (x = i ∧ rot d i m (m + 1) x = d m) ∨ (i < x ∧ rot d i m (m + 1) x = d (x - 1)) := fun x h3 h4 => by
      by_cases q : x < i
      · left; exact ⟨q, rot_out _ _ _ _ (by omega)⟩
      · by_cases r : x = i
        · right; left; refine ⟨r, ?_⟩; unfold rot; rw [if_pos (by omega), if_pos (by omega)]; congr 1; omega
        · right; right; refine ⟨by omega, ?_⟩; unfold rot; rw [if_pos (by omega), if_neg (by omega)]; congr 1; omega
    intro x y hx hxy hy
    rcases g x hx (by omega) with ⟨q1, q2⟩ | ⟨q1, q2⟩ | ⟨q1, q2⟩ <;> rcases g y (by omega) hy with ⟨r1, r2⟩ | ⟨r1, r2⟩ | ⟨r1, r2⟩ <;> rw [q2, r2]
    · exact hs _ _ (by omega) (by omega) (by omega)
    · exact hl _ (by omega) (by omega)
    · exact hs _ _ (by omega) (by omega) (by omega)
    · omega
    · omega
    · exact T.asym (hr _ (by omega) (by omega))
    · omega
    · omega
    · exact hs _ _ (by omega) (by omega) (by omega)
/-- The halves behind the rotation. -/
theorem merge_halves {n : Nat} {d : Nat → α} (T : TO lt) {a s m e b : Nat} (h1 : a ≤ s) (h2 : s ≤ m) (h3 : m ≤ e) (h4 : e ≤ b) (hb : b ≤ n) (hL : SrtF K lt d a m) (hR : SrtF K lt d m b)
    (hx : s < m → m < e → lt (K (d (e - 1))) (K (d s)) = true) (hy : a < s → e < b → lt (K (d e)) (K (d (s - 1))) = false) :
    Wk K n d (rot d s m e) a b ∧ SrtF K lt (rot d s m e) a s ∧ SrtF K lt (rot d s m e) s (s + (e - m)) ∧ SrtF K lt (rot d s m e) (s + (e - m)) e ∧ SrtF K lt (rot d s m e) e b ∧
    (∀ i j, a ≤ i → i < s + (e - m) → s + (e - m) ≤ j → j < b → lt (K (rot d s m e j)) (K (rot d s m e i)) = false) := by
  have hlt : ∀ i j, s ≤ i → i < m → m ≤ j → j < e → lt (K (d j)) (K (d i)) = true := fun i j q1 q2 q3 q4 => by
    have q := hx (by omega) (by omega)
    have r1 : lt (K (d i)) (K (d s)) = false := by
      rcases Nat.lt_or_ge s i with z | z
      · exact hL _ _ h1 z q2
      · obtain rfl : i = s := by omega
        exact T.irr _
    have r2 : lt (K (d (e - 1))) (K (d j)) = false := by
      rcases Nat.lt_or_ge j (e - 1) with z | z
      · exact hR _ _ q3 z (by omega)
      · obtain rfl : j = e - 1 := by omega
        exact T.irr _
    exact T.lt_le (T.le_lt r2 q) r1
  have hle : ∀ i j, a ≤ i → i < s → e ≤ j → j < b → lt (K (d j)) (K (d i)) = false := fun i j q1 q2 q3 q4 => by
    have q := hy (by omega) (by omega)
    have r1 : lt (K (d (s - 1))) (K (d i)) = false := by
      rcases Nat.lt_or_ge i (s - 1) with z | z
      · exact hL _ _ q1 z (by omega)
      · obtain rfl : i = s - 1 := by omega
        exact T.irr _
    have r2 : lt (K (d j)) (K (d e)) = false := by
      rcases Nat.lt_or_ge e j with z | z
      · exact hR _ _ h3 z q4
      · obtain rfl : j = e := by omega
        exact T.irr _
    exact T.le_tr (T.le_tr r1 q) r2
  have gA : ∀ x, x < s → rot d s m e x = d x := fun x hx => rot_out _ _ _ _ (.inl hx)
  have gB : ∀ x, s ≤ x → x < s + (e - m) → rot d s m e x = d (x + (m - s)) := fun x h5 h6 => by unfold rot; rw [if_pos (by omega), if_pos h6]
  have gC : ∀ x, s + (e - m) ≤ x → x < e → rot d s m e x = d (x - (e - m)) := fun x h5 h6 => by unfold rot; rw [if_pos (by omega), if_neg (by omega)]
  have gD : ∀ x, e ≤ x → rot d s m e x = d x := fun x hx => rot_out _ _ _ _ (.inr hx)
  refine ⟨⟨fun x hx => rot_out _ _ _ _ (by omega), stab_rot d h2 h3 (by omega) (fun i j q1 q2 q3 q4 z => ?_)⟩, ?_, ?_, ?_, ?_, ?_⟩
  · have := hlt i j q1 q2 q3 q4
    rw [z, T.irr] at this; cases this
  · exact srt_same (srt_sub hL (Nat.le_refl _) h2) (fun i _ hi => gA i hi)
  · intro i j q1 q2 q3; rw [gB i q1 (by omega), gB j (by omega) q3]; exact hR _ _ (by omega) (by omega) (by omega)
  · intro i j q1 q2 q3; rw [gC i q1 (by omega), gC j (by omega) q3]; exact hL _ _ (by omega) (by omega) (by omega)
  · exact srt_same (srt_sub hR h3 (Nat.le_refl _)) (fun i hi _ => gD i hi)
  · intro i j q1 q2 q3 q4
    by_cases hi : i < s
    · rw [gA i hi]
      by_cases hj : j < e
      · rw [gC j q3 hj]; exact hL _ _ q1 (by omega) (by omega)
      · rw [gD j (by omega)]; exact hle i j q1 hi (by omega) q4
    · rw [gB i (by omega) q2]
      by_cases hj : j < e
      · rw [gC j q3 hj]; exact T.asym (hlt _ _ (by omega) (by omega) (by omega) (by omega))
      · rw [gD j (by omega)]; exact hR _ _ (by omega) (by omega) q4
/-- The halves, each in order. -/
theorem merge_join {n : Nat} {d e f : Nat → α} {a mid b : Nat} (h1 : Wk K n d e a mid) (h2 : Wk K n e f mid b) (ha : a ≤ mid) (hm : mid ≤ b) (hb : b ≤ n) (hs1 : SrtF K lt e a mid) (hs2 : SrtF K lt f mid b)
    (h : ∀ i j, a ≤ i → i < mid → mid ≤ j → j < b → lt (K (d j)) (K (d i)) = false) : Wk K n d f a b ∧ SrtF K lt f a b := by
  refine ⟨(h1.wider (Nat.le_refl _) hm).trans (h2.wider ha (Nat.le_refl _)), srt_join (srt_same hs1 (fun i _ hi => h2.out i (.inl hi))) hs2 ?_⟩
  have q1 : ∀ i, a ≤ i → i < mid → ∀ j, mid ≤ j → j < b → lt (K (d j)) (K (e i)) = false := fun i hi hi2 j hj hj2 =>
    (h1.all (p := fun x => lt (K (d j)) (K x) = false) (by omega) (fun i hi hi2 => h i j hi hi2 hj hj2)) i hi hi2
  intro i j hi hi2 hj hj2
  rw [h2.out i (.inl hi2)]
  refine (h2.all (p := fun x => lt (K x) (K (e i)) = false) hb (fun j hj hj2 => ?_)) j hj hj2
  rw [h1.out j (.inr hj)]
  exact q1 i hi hi2 j hj hj2
end
end Go.Proofs.Ythhfcambdmdgfaa.Srt
namespace Go.Proofs.Ythhfcambdmdgfaa
open Srt
set_option linter.unusedVariables false
set_option linter.unusedSimpArgs false
set_option linter.unusedSectionVars false
theorem toB : TO ltB := ⟨ltB_irrefl, fun _ _ _ h k => ltB_trans h k, fun x y h k => by
  by_cases e : x = y
  · exact e
  · rcases ltB_total e with q | q
    · rw [h] at q; cases q
    · rw [k] at q; cases q⟩
section
variable {α : Type} {t : α → ByteArray}
def insX (t : α → ByteArray) (x : α) : List α → List α
  | [] => [x]
  | y :: r => if ltB (t x) (t y) then x :: y :: r else y :: insX t x r
def srtX (t : α → ByteArray) (l : List α) : List α := l.foldl (fun a x => insX t x a) []
def SrtL (t : α → ByteArray) (l : List α) : Prop := l.Pairwise (fun x y => ltB (t y) (t x) = false)
theorem insX_mem {x z : α} : ∀ (l : List α), z ∈ insX t x l ↔ z = x ∨ z ∈ l
  | [] => by simp [insX]
  | y :: r => by
    unfold insX
    split
    · simp
    · simp only [List.mem_cons, insX_mem r]
      constructor
      · rintro (h | h | h) <;> simp_all
      · rintro (h | h | h) <;> simp_all
theorem insX_len (x : α) : ∀ (l : List α), (insX t x l).length = l.length + 1
  | [] => rfl
  | y :: r => by unfold insX; split <;> simp [insX_len x r]
theorem insX_stab (x : α) : ∀ (l : List α), SrtL t l → Stab t (insX t x l) (l ++ [x])
  | [], _ => Stab.refl _
  | y :: r, h => by
    have h' := List.pairwise_cons.1 h
    unfold insX
    split
    · rename_i hlt
      exact stab_swap (K := t) (X := [x]) (Y := y :: r) (fun a ha b hb => by
        obtain rfl := List.mem_singleton.1 ha
        intro e
        rcases List.mem_cons.1 hb with rfl | hb
        · rw [e, ltB_irrefl] at hlt; cases hlt
        · have := h'.1 b hb
          rw [← e, hlt] at this; cases this)
    · exact stab_app (Stab.refl (K := t) [y]) (insX_stab x r h'.2)
theorem insX_srt (x : α) : ∀ (l : List α), SrtL t l → SrtL t (insX t x l)
  | [], _ => List.pairwise_singleton _ _
  | y :: r, h => by
    have h' := List.pairwise_cons.1 h
    unfold insX
    split
    · rename_i hlt
      refine List.pairwise_cons.2 ⟨fun z hz => ?_, h⟩
      rcases List.mem_cons.1 hz with rfl | hz
      · exact ltB_asymm hlt
      · exact toB.asym (toB.lt_le hlt (h'.1 z hz))
    · rename_i hlt
      refine List.pairwise_cons.2 ⟨fun z hz => ?_, insX_srt x r h'.2⟩
      rcases (insX_mem r).1 hz with rfl | hz
      · simpa using hlt
      · exact h'.1 z hz
theorem srtX_go : ∀ (l a : List α), SrtL t a → SrtL t (l.foldl (fun a x => insX t x a) a) ∧ Stab t (l.foldl (fun a x => insX t x a) a) (a ++ l)
  | [], a, h => ⟨h, by simpa using Stab.refl a⟩
  | x :: r, a, h => by
    obtain ⟨h1, h2⟩ := srtX_go r (insX t x a) (insX_srt x a h)
    refine ⟨h1, Stab.trans (K := t) h2 ?_⟩
    have := stab_app (insX_stab x a h) (Stab.refl (K := t) r)
    simpa [List.append_assoc] using this
theorem srtX_srt (l : List α) : SrtL t (srtX t l) := (srtX_go l [] List.Pairwise.nil).1
theorem srtX_stab (l : List α) : Stab t (srtX t l) l := (srtX_go (t := t) l [] List.Pairwise.nil).2
theorem Stab_symm {κ : Type} [DecidableEq κ] {K : α → κ} {l m : List α} (h : Stab K l m) : Stab K m l := fun c => (h c).symm
theorem srtX_of {l m : List α} (h : SrtL t m) (k : Stab t l m) : m = srtX t l :=
  srt_unique toB _ _ h (srtX_srt l) (Stab.trans (Stab_symm k) (Stab_symm (srtX_stab l)))
theorem srtX_mem {l : List α} {x : α} : x ∈ srtX t l ↔ x ∈ l := (srtX_stab l).mem
theorem srtX_len (l : List α) : (srtX t l).length = l.length := by
  have : ∀ (l a : List α), (l.foldl (fun a x => insX t x a) a).length = a.length + l.length := by
    intro l
    induction l with
    | nil => intro a; rfl
    | cons x r ih => intro a; rw [List.foldl_cons, ih, insX_len, List.length_cons]; omega
  have h := this l []
  rw [List.length_nil, Nat.zero_add] at h
  exact h
theorem srtX_snoc (l : List α) (x : α) : srtX t (l ++ [x]) = insX t x (srtX t l) := by unfold srtX; rw [List.foldl_append]; rfl
/-- The way of the reference: what stands so far, and whether x is in. -/
def insStep (t : α → ByteArray) (x : α) (s : List α × Bool) (y : α) : List α × Bool := if !s.2 && ltB (t x) (t y) then (s.1 ++ [x, y], true) else (s.1 ++ [y], s.2)
def insTo (t : α → ByteArray) (x : α) (l : List α) (k : Nat) : List α × Bool := (l.take k).foldl (insStep t x) ([], false)
theorem insTo_succ {x : α} {l : List α} {k : Nat} (h : k < l.length) : insTo t x l (k + 1) = if !(insTo t x l k).2 && ltB (t x) (t (l[k]'h)) then ((insTo t x l k).1 ++ [x, l[k]'h], true) else ((insTo t x l k).1 ++ [l[k]'h], (insTo t x l k).2) := by
  unfold insTo; rw [List.take_succ_eq_append_getElem h, List.foldl_append]; rfl
theorem insTo_true (x : α) : ∀ (l o : List α), l.foldl (insStep t x) (o, true) = (o ++ l, true)
  | [], o => by simp
  | y :: r, o => by
    have e : insStep t x (o, true) y = (o ++ [y], true) := rfl
    rw [List.foldl_cons, e, insTo_true x r]; simp
theorem insTo_go (x : α) : ∀ (l o : List α), l.foldl (insStep t x) (o, false) = if l.any (fun y => ltB (t x) (t y)) then (o ++ insX t x l, true) else (o ++ l, false)
  | [], o => by simp
  | y :: r, o => by
    rw [List.foldl_cons]
    by_cases h : ltB (t x) (t y) = true
    · have e : insStep t x (o, false) y = (o ++ [x, y], true) := by unfold insStep; simp [h]
      rw [e, insTo_true, if_pos (by simp [h])]; unfold insX; rw [if_pos h]; simp
    · have h' : ltB (t x) (t y) = false := by simpa using h
      have e : insStep t x (o, false) y = (o ++ [y], false) := by unfold insStep; simp [h']
      have e2 : insX t x (y :: r) = y :: insX t x r := by show (if _ then _ else _) = _; rw [if_neg h]
      rw [e, insTo_go x r, List.any_cons, h', Bool.false_or, e2]
      split <;> simp
theorem insX_last {x : α} : ∀ {l : List α}, l.any (fun y => ltB (t x) (t y)) = false → insX t x l = l ++ [x]
  | [], _ => rfl
  | y :: r, h => by
    simp only [List.any_cons, Bool.or_eq_false_iff] at h
    unfold insX; rw [if_neg (by simp [h.1]), insX_last h.2]; rfl
/-- At the end. -/
theorem insTo_end (x : α) (l : List α) : insX t x l = if (insTo t x l l.length).2 then (insTo t x l l.length).1 else (insTo t x l l.length).1 ++ [x] := by
  unfold insTo
  rw [List.take_length, insTo_go]
  split <;> rename_i h
  · simp
  · rw [insX_last (by simpa using h)]; simp
theorem insTo_len (x : α) (l : List α) (k : Nat) (h : k ≤ l.length) : (insTo t x l k).1.length = k + (if (insTo t x l k).2 then 1 else 0) := by
  induction k with
  | zero => rfl
  | succ k ih =>
    rw [insTo_succ (by omega)]
    have := ih (by omega)
    cases hb : (insTo t x l k).2 with
    | true => rw [hb] at this; simp at this ⊢; omega
    | false =>
      rw [hb] at this
      by_cases q : ltB (t x) (t (l[k]'(by omega))) = true
      · simp [q] at this ⊢; omega
      · simp [q] at this ⊢; omega
end
end Go.Proofs.Ythhfcambdmdgfaa
namespace Go.Proofs.Ythhfcambdmdgfaa
open Go.RowKit Go.Maps
set_option linter.unusedVariables false
set_option linter.unusedSimpArgs false
theorem info_obj : (Try.prog.info? 27).map (fun i => (i.zero, i.size, i.bytes)) = some (some (.agg #[.string ⟨#[]⟩, .string ⟨#[]⟩, .string ⟨#[]⟩, .int .i64 0, .string ⟨#[]⟩, .bool false, .bool false, .slice none 0 0]), 8, 104) := by kernel_rfl
theorem app_obj {ops : Array Oper} {rest : List Oper} {o : Oper} {a : Act} {Q : Exit → Act → World → Prop} {w : World} (hgd : o.guard = none) (s x : Operand)
    (ho : o.op = .call { callee := .builtin .append, args := #[s, x], argTypes := #[28, 28] })
    (base : Nat) (tb : TypeId) (v : Value) (l : List OX) (u : OX) (au : Option Addr) (nu cu : Nat) (hu : u.2 = .slice au nu cu) (hs : a.eval s = v) (hown : w.ownsRow base 27 8 v l.length (objC l)) (c : Nat) (hx : a.eval x = .slice (some ⟨w.heap.size, 0, none⟩) 1 c)
    (hbase : base ≤ w.heap.size) (hlen : l.length + 1 ≤ 100000000)
    (h : ∀ g cap w1, w1.ownsRow base 27 8 (.slice (some ⟨g, 0, none⟩) (l.length + 1) cap) (l ++ [u]).length (objC (l ++ [u])) → Kept (fun k => v.ownBlock = some k) w w1 → wpList Try.prog ops Q rest (a.put o.dst (.slice (some ⟨g, 0, none⟩) (l.length + 1) cap)) w1) :
    wpList Try.prog ops Q (o :: rest) a (w.alloc (.cells #[.string u.1.key.kind, .string u.1.key.space, .string u.1.key.name, .int .i64 u.1.ver, .string u.1.cls, .bool u.1.term, .bool u.1.best, .slice au nu cu] tb)) := by
  obtain ⟨i0, hi, hz0, hz1, hz2⟩ := info_parts info_obj
  refine app_rw hgd s x _ ho base _ i0 _ 8 104 Try.underlying28 hi hz0 hz1 hz2 rfl (by decide) tb v l.length (objC l) [.string u.1.key.kind, .string u.1.key.space, .string u.1.key.name, .int .i64 u.1.ver, .string u.1.cls, .bool u.1.term, .bool u.1.best, .slice au nu cu] hs hown c hx rfl (by simp [Value.oneCell']) hbase hlen (by decide) ?_
  intro g cap w1 h1 h2 h3
  refine h g cap w1 ?_ h2
  rw [List.length_append, objC_app]
  have e : objX u = [.string u.1.key.kind, .string u.1.key.space, .string u.1.key.name, .int .i64 u.1.ver, .string u.1.cls, .bool u.1.term, .bool u.1.best, .slice au nu cu] := by unfold objX; rw [hu]
  rw [e]; exact h1
def oIn (o : ObjD) : Prop := in64 o.ver ∧ ∀ r ∈ o.charge, in64 r.2
theorem ObjS.oIn {w : World} {v : Value} {o : ObjD} (h : ObjS w v o) : oIn o := ⟨h.2, h.1.2⟩
theorem ResF.mono {w : World} {b b' : Nat} {x : Value} {l : Res} (h : ResF w b x l) (hb : b' ≤ b) : ResF w b' x l := by
  obtain ⟨g, h1, h2, h3⟩ := h; exact ⟨g, by omega, h2, h3⟩
theorem ResF.form {w : World} {b : Nat} {x : Value} {l : Res} (h : ResF w b x l) : ∃ g, x = .slice (some ⟨g, 0, none⟩) l.length l.length := by
  obtain ⟨g, h1, h2, h3⟩ := h; exact ⟨g, h2⟩
theorem ResF.kept {X : Nat → Prop} {w w' : World} {b : Nat} {x : Value} {l : Res} (h : ResF w b x l) (hk : Kept X w w') (hX : ∀ k, X k → ∀ c, w.heap[k]? = some (.cells c 112) → False) : ResF w' b x l := by
  obtain ⟨g, h1, h2, h3⟩ := h
  exact ⟨g, h1, h2, hk.heap h3 (fun q => hX g q _ h3)⟩
theorem ResF.below {w w' : World} {b : Nat} {x : Value} {l : Res} (h : ResF w b x l) (hb : Below w.heap.size w w') : ResF w' b x l := h.kept (kept_of_below (X := fun _ => False) hb) (fun _ q => q.elim)
/-- A list of objects in a row of the call's own, each with a list of its own. -/
def ObjsF (w : World) (b : Nat) (v : Value) (ys : List OX) : Prop := w.ownsRow b 27 8 v ys.length (objC ys) ∧ ∀ p ∈ ys, ResF w b p.2 p.1.charge
theorem ObjsF.objsS {w : World} {b : Nat} {v : Value} {ys : List OX} (h : ObjsF w b v ys) (hi : ∀ p ∈ ys, oIn p.1) : ObjsS w v ys := ⟨sliS_of h.1, fun p hp => ⟨(h.2 p hp).resS (hi p hp).2, (hi p hp).1⟩⟩
theorem row_apart {w : World} {b n : Nat} {v : Value} {cs : List Value} (h : w.ownsRow b 27 8 v n cs) : ∀ k, v.ownBlock = some k → ∀ c, w.heap[k]? = some (.cells c 112) → False := fun k hk c hc => rw_other h hc (by decide) hk
theorem ObjsF.kept {X : Nat → Prop} {w w' : World} {b : Nat} {v : Value} {ys : List OX} (h : ObjsF w b v ys) (hk : Kept X w w') (h1 : ∀ k, v.ownBlock = some k → ¬ X k) (h2 : ∀ k, X k → ∀ c, w.heap[k]? = some (.cells c 112) → False) : ObjsF w' b v ys :=
  ⟨rw_kept h.1 hk h1, fun p hp => (h.2 p hp).kept hk h2⟩
theorem ObjsF.below {w w' : World} {b : Nat} {v : Value} {ys : List OX} (h : ObjsF w b v ys) (hb : Below w.heap.size w w') : ObjsF w' b v ys := h.kept (kept_of_below (X := fun _ => False) hb) (fun _ _ q => q) (fun _ q => q.elim)
theorem ObjsF.mono {w : World} {b b' : Nat} {v : Value} {ys : List OX} (h : ObjsF w b v ys) (hb : b' ≤ b) : ObjsF w b' v ys := ⟨rw_mono h.1 hb, fun p hp => (h.2 p hp).mono hb⟩
theorem objsF_nil (w : World) (b : Nat) : ObjsF w b (.slice none 0 0) [] := ⟨⟨rfl, .inl ⟨rfl, rfl⟩⟩, by rintro p ⟨⟩⟩
theorem ObjsF.form {w : World} {b : Nat} {v : Value} {ys : List OX} (h : ObjsF w b v ys) : ∃ A c, v = .slice A ys.length c := rw_form h.1
/-- One more. -/
theorem ObjsF.snoc {w w' : World} {b : Nat} {v v' : Value} {ys : List OX} {p : OX} (h : ObjsF w b v ys) (hp : ResF w b p.2 p.1.charge) (hr : w'.ownsRow b 27 8 v' (ys ++ [p]).length (objC (ys ++ [p]))) (hk : Kept (fun k => v.ownBlock = some k) w w') : ObjsF w' b v' (ys ++ [p]) :=
  ⟨hr, fun q hq => by
    rcases List.mem_append.1 hq with r | r
    · exact (h.2 q r).kept hk (row_apart h.1)
    · obtain rfl := List.mem_singleton.1 r; exact hp.kept hk (row_apart h.1)⟩
theorem row_below {w w' : World} {b n : Nat} {v : Value} {cs : List Value} (h : w.ownsRow b 27 8 v n cs) (hk : Kept (fun k => v.ownBlock = some k) w w') (hb : b ≤ w.heap.size) : Below b w w' := hk.below hb (fun k q => (rw_type h q).1)
/-- A block of cells of a type. -/
def TyB (w : World) (b : Nat) (T : TypeId) : Prop := ∃ c, w.heap[b]? = some (.cells c T)
theorem TyB.set {w : World} {b : Nat} {T : TypeId} (h : TyB w b T) (g j : Nat) (u : Value) : TyB (w.setCell ⟨g, j, none⟩ u) b T := by
  obtain ⟨c, hc⟩ := h
  by_cases e : b = g
  · subst e; exact ⟨_, heap_setCell_same w b j c T u hc⟩
  · exact ⟨c, (Below.heap_setCell w ⟨g, j, none⟩ u b e).trans hc⟩
theorem TyB.below {w w' : World} {b : Nat} {T : TypeId} (h : TyB w b T) (hb : Below w.heap.size w w') : TyB w' b T := by
  obtain ⟨c, hc⟩ := h; exact ⟨c, blk_below hc hb⟩
theorem TyB.ne {w : World} {b : Nat} {T : TypeId} (h : TyB w b T) {c : Array Value} {T' : TypeId} (hc : w.heap[b]? = some (.cells c T')) (hT : T ≠ T') : False := by
  obtain ⟨d, hd⟩ := h; rw [hc] at hd; cases hd; exact hT rfl
end Go.Proofs.Ythhfcambdmdgfaa

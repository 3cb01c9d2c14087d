import Derived.Test.YteomicjjaajblaaObd
namespace Go.Proofs.Yteomicjjaajblaa
open Go.RowKit Go.Shelf Go.Maps
set_option linter.unusedVariables false
set_option linter.unusedSimpArgs false
def objectsB : ByteArray := ⟨#[111, 98, 106, 101, 99, 116, 115]⟩
def countV : Vec := [(objectsB, 1)]
def chargeR (o : ObjD) : Int × Vec := if rightO o then bothR (· + ·) (ofR o.charge).2 countV else (1, [])
/-! ### Plain -/
theorem rightO_parts {o : ObjD} (h : rightO o = true) : keyOk o.key = true ∧ 1 ≤ o.ver ∧ clsB o.cls = true ∧ o.charge.length ≤ 16 ∧ chargeB o.charge = true := by
  unfold rightO at h
  simp only [Bool.and_eq_true, decide_eq_true_eq] at h
  exact ⟨h.1.1.1.1, h.1.1.1.2, h.1.1.2, h.1.2, h.2⟩
theorem ofR_right {l : Res} (h : chargeB l = true) (h16 : l.length ≤ 16) : ofR l = (0, someV (foldO l)) := by
  unfold ofR
  have hb : l.any badR = false := by
    rw [List.any_eq_false]
    intro p hp
    obtain ⟨h1, h2⟩ := (chargeB_iff.1 h).1 p hp
    unfold badR
    rw [h1]
    simpa using h2
  rw [hb, if_neg (by simp), if_neg (by omega)]
theorem ofR_small (l : Res) : (ofR l).2.length ≤ 16 := by
  unfold ofR
  split
  · exact Nat.zero_le _
  · split
    · exact Nat.zero_le _
    · exact Nat.le_trans (someV_le _) (Nat.le_trans (foldO_len l) (by omega))
theorem ofR_names {l : Res} (hs : ∀ p ∈ l, p.1.size ≤ 1000) : ∀ p ∈ (ofR l).2, p.1.size ≤ 1000 := by
  intro p hp
  unfold ofR at hp
  split at hp
  · cases hp
  · split at hp
    · cases hp
    · obtain ⟨q, hq, e⟩ := foldO_names (List.mem_filter.1 hp).1
      rw [e]; exact hs q hq
theorem ofR_rise (l : Res) : RiseA ltB (ofR l).2 := by
  unfold ofR
  split
  · exact List.Pairwise.nil
  · split
    · exact List.Pairwise.nil
    · exact rise_some (foldO_rise l)
theorem ofR_get_in {l : Res} (hi : ∀ p ∈ l, in64 p.2) (n : ByteArray) : 0 ≤ getV (ofR l).2 n ∧ getV (ofR l).2 n ≤ 16 * 9223372036854775807 := by
  unfold ofR
  split
  · exact ⟨Int.le_refl _, by show (0 : Int) ≤ _; omega⟩
  · split
    · exact ⟨Int.le_refl _, by show (0 : Int) ≤ _; omega⟩
    · rename_i hb hl
      have hg : l.any badR = false := by simpa using hb
      have := foldO_bound (l := l) (fun p hp => good_res (k := l.length) (by rw [List.take_length]; exact hg) hi p (by rw [List.take_length]; exact hp)) n
      rw [getV_some (foldO_rise l)]
      refine ⟨this.1, Int.le_trans this.2 ?_⟩
      exact Int.mul_le_mul_of_nonneg_right (by omega) (by omega)
theorem ofR_in {l : Res} (hi : ∀ p ∈ l, in64 p.2) : ∀ p ∈ (ofR l).2, wIn p.2 = true := fun p hp => by
  have := ofR_get_in hi p.1
  rw [getV_mem (ofR_rise l) hp] at this
  exact wide_in this.1 (by omega)
theorem ofR_rightV {l : Res} (h : chargeB l = true) (h16 : l.length ≤ 16) : rightV (ofR l).2 = true := by
  refine rightV_of (ofR_rise l) fun p hp => ?_
  rw [ofR_right h h16] at hp
  refine ⟨?_, someV_nz _ p hp⟩
  obtain ⟨q, hq, e⟩ := foldO_names (List.mem_filter.1 hp).1
  rw [e]; exact ((chargeB_iff.1 h).1 q hq).1
theorem count_right : rightV countV = true := by decide
theorem count_of : ofR [(objectsB, 1)] = (0, countV) := by decide
/-- The sum that a list has of a name. -/
def sumV (l : Res) (n : ByteArray) : Int := l.foldr (fun p s => (if p.1 = n then p.2 else 0) + s) 0
theorem foldO_sum (n : ByteArray) : ∀ (l : Res) (m : Vec), getV (l.foldl stepO m) n = getV m n + sumV l n
  | [], m => by simp [sumV]
  | p :: r, m => by
    rw [List.foldl_cons, foldO_sum n r]
    unfold stepO
    rw [getV_put]
    show _ = getV m n + ((if p.1 = n then p.2 else 0) + sumV r n)
    by_cases h : n = p.1
    · subst h; simp; omega
    · rw [if_neg h, if_neg (fun e => h e.symm)]; omega
theorem sumV_zero {l : Res} {n : ByteArray} (h : ∀ p ∈ l, p.1 ≠ n) : sumV l n = 0 := by
  induction l with
  | nil => rfl
  | cons p r ih =>
    show (if p.1 = n then p.2 else 0) + sumV r n = 0
    rw [if_neg (h p (List.mem_cons_self ..)), ih fun q hq => h q (List.mem_cons_of_mem _ hq)]; rfl
theorem sumV_rise : ∀ {l : Res} {n : ByteArray}, RiseA ltB l → sumV l n = getV l n
  | [], n, _ => rfl
  | p :: r, n, h => by
    rw [getV_cons]
    show (if p.1 = n then p.2 else 0) + sumV r n = _
    obtain ⟨h1, h2⟩ := List.pairwise_cons.1 h
    by_cases e : p.1 = n
    · rw [if_pos e, if_pos e, sumV_zero fun q hq eq => by have := h1 q hq; rw [eq, ← e, ltB_irrefl] at this; cases this]; omega
    · rw [if_neg e, if_neg e, sumV_rise h2]; omega
theorem getV_ofR {l : Res} (h : chargeB l = true) (h16 : l.length ≤ 16) (n : ByteArray) : getV (ofR l).2 n = getV l n := by
  rw [ofR_right h h16, getV_some (foldO_rise l)]
  have e := foldO_sum n l []
  rw [show getV ([] : Vec) n = 0 from rfl, Int.zero_add] at e
  rw [show foldO l = l.foldl stepO [] from rfl, e]
  exact sumV_rise (chargeB_iff.1 h).2
theorem chargeR_right {o : ObjD} (h : rightO o = true) (hi : ∀ p ∈ o.charge, in64 p.2) : chargeR o = (0, bothV (· + ·) (ofR o.charge).2 countV) := by
  obtain ⟨_, _, _, h16, hc⟩ := rightO_parts h
  unfold chargeR
  rw [if_pos h]
  unfold bothR
  rw [ofR_rightV hc h16, count_right]
  rw [show allIn (· + ·) (ofR o.charge).2 countV (keysA (ofR o.charge).2 ++ keysA countV) = true from by
    unfold allIn
    rw [List.all_eq_true]
    intro n _
    have h1 := ofR_get_in hi n
    have h2 : getV countV n = 0 ∨ getV countV n = 1 := by
      unfold countV
      rw [getV_cons]
      split
      · exact .inr rfl
      · exact .inl rfl
    exact wide_in (show (0 : Int) ≤ getV (ofR o.charge).2 n + getV countV n by omega) (show getV (ofR o.charge).2 n + getV countV n ≤ _ by omega)]
  rfl
theorem chargeR_wrong {o : ObjD} (h : rightO o = false) : chargeR o = (1, []) := by unfold chargeR; rw [h]; rfl
theorem chargeR_code {o : ObjD} (hi : ∀ p ∈ o.charge, in64 p.2) : (chargeR o).1 = if rightO o then 0 else 1 := by
  cases h : rightO o with
  | true => rw [chargeR_right h hi]; rfl
  | false => rw [chargeR_wrong h]; rfl
theorem chargeR_len {o : ObjD} (hi : ∀ p ∈ o.charge, in64 p.2) : (chargeR o).2.length ≤ o.charge.length + 1 := by
  cases h : rightO o with
  | false => rw [chargeR_wrong h]; exact Nat.zero_le _
  | true =>
    obtain ⟨_, _, _, h16, hc⟩ := rightO_parts h
    rw [chargeR_right h hi]
    show (bothV _ _ _).length ≤ _
    unfold bothV
    refine Nat.le_trans (someV_le _) (Nat.le_trans (foldB_len _ _ _ _) ?_)
    rw [List.length_append]
    unfold keysA
    rw [List.length_map, List.length_map]
    have : (ofR o.charge).2.length ≤ o.charge.length := by rw [ofR_right hc h16]; exact Nat.le_trans (someV_le _) (foldO_len _)
    have e : countV.length = 1 := rfl
    omega
theorem chargeR_rightV {o : ObjD} (hi : ∀ p ∈ o.charge, in64 p.2) : rightV (chargeR o).2 = true := by
  cases h : rightO o with
  | false => rw [chargeR_wrong h]; rfl
  | true =>
    obtain ⟨_, _, _, h16, hc⟩ := rightO_parts h
    rw [chargeR_right h hi]
    exact bothV_right (ofR_rightV hc h16) count_right
theorem chargeR_get {o : ObjD} (h : rightO o = true) (hi : ∀ p ∈ o.charge, in64 p.2) (n : ByteArray) : getV (chargeR o).2 n = getV o.charge n + (if n = objectsB then 1 else 0) := by
  obtain ⟨_, _, _, h16, hc⟩ := rightO_parts h
  rw [chargeR_right h hi]
  show getV (bothV _ _ _) n = _
  rw [bothV_get rfl, getV_ofR hc h16]
  congr 1
  unfold countV
  rw [getV_cons]
  by_cases e : n = objectsB
  · rw [if_pos e, if_pos e.symm]
  · rw [if_neg e, if_neg (fun x => e x.symm)]; rfl
theorem chargeR_in {o : ObjD} (hi : ∀ p ∈ o.charge, in64 p.2) : ∀ p ∈ (chargeR o).2, wIn p.2 = true := fun p hp => by
  cases h : rightO o with
  | false => rw [chargeR_wrong h] at hp; cases hp
  | true =>
    obtain ⟨_, _, _, h16, hc⟩ := rightO_parts h
    have hr := (rightV_spec (chargeR_rightV hi)).1
    have hg := getV_mem hr hp
    rw [chargeR_get h hi, ← getV_ofR hc h16] at hg
    have := ofR_get_in hi p.1
    rw [← hg]
    split <;> exact wide_in (by omega) (by omega)
theorem chargeR_names {o : ObjD} (hi : ∀ p ∈ o.charge, in64 p.2) : ∀ p ∈ (chargeR o).2, p.1.size ≤ 24 := fun p hp => right_size ((rightV_spec (chargeR_rightV hi)).2 p hp).1
theorem chargeR_same {o o' : ObjD} (hi : ∀ p ∈ o.charge, in64 p.2) (h : rightO o = true) (h' : rightO o' = true) (e : o'.charge = o.charge) : chargeR o' = chargeR o := by
  unfold chargeR; rw [h, h', e]
/-! ### The walks -/
theorem count_new (W : World) : VecS (W.alloc (.cells #[.string ⟨#[111, 98, 106, 101, 99, 116, 115]⟩, .int .i64 0, .int .u64 1] 64)) (.slice (some ⟨W.heap.size, 0, none⟩) 1 1) countV :=
  ⟨sliS_lit (cs := vecC countV) (n := 1) (blk_new W _) rfl, by decide⟩
theorem countR_new (W : World) : ResS (W.alloc (.cells #[.string ⟨#[111, 98, 106, 101, 99, 116, 115]⟩, .int .i64 1] 43)) (.slice (some ⟨W.heap.size, 0, none⟩) 1 1) [(objectsB, 1)] :=
  ⟨sliS_lit (cs := resC [(objectsB, 1)]) (n := 1) (blk_new W _) rfl, by intro p hp; obtain rfl := List.mem_singleton.1 hp; exact ⟨by decide, by decide⟩⟩
set_option maxRecDepth 100000 in
set_option maxHeartbeats 16000000 in
theorem rocharge_calls (w : World) {sl : Value} {o : ObjD} (h : ObjS w sl o) (hs : objSmall o) :
    Calls Try.prog 10 #[objV o sl] w (VecOut w (chargeR o)) := by
  have HR := Lib.hid (fun (W : World) (hb : Below w.heap.size w W) => roright_calls W (h.below hb) hs)
  have H := Lib.hid h.1
  have HI := Lib.hid h.1.2
  obtain ⟨_, _, hs5, hs6⟩ := hs
  have HSZ := Lib.hid hs6
  obtain ⟨al, cl, rfl⟩ := h.1.form
  clear h hs6
  unfold objV at HR
  unfold objV
  go_enter Try.func10, Try.ntmps10
  go_upto_region 1 with fail
  first | with_reducible refine name_wp ?_ | with_reducible refine name_calls ?_
  intro W hWeq
  have g0 : W.heap[w.heap.size]? = some (.cells #[.string o.key.kind, .string o.key.space, .string o.key.name, .int .i64 o.ver, .string o.cls, .bool o.term, .bool o.best, .slice al o.charge.length cl] 26) := by rw [hWeq]; repeat (first | (with_reducible exact blk_newAt _ _ (by simp)) | with_reducible refine blk_drew ?_ | with_reducible refine blk_dN ?_ _ | with_reducible refine blk_old ?_ _)
  have hw : Below w.heap.size w W := by rw [hWeq]; repeat (first | with_reducible exact Below.refl _ _ | with_reducible refine Below.drew ?_ | with_reducible refine bl_dN ?_ _ | with_reducible refine Below.alloc ?_ (by simp <;> omega) _)
  clear hWeq
  have hz : w.heap.size + 1 ≤ W.heap.size := by have := blk_lt g0; omega
  have c0_0 : W.cell? ⟨w.heap.size, 0, none⟩ = some (.string o.key.kind) := blk_cell g0 0
  have c0_1 : W.cell? ⟨w.heap.size, 1, none⟩ = some (.string o.key.space) := blk_cell g0 1
  have c0_2 : W.cell? ⟨w.heap.size, 2, none⟩ = some (.string o.key.name) := blk_cell g0 2
  have c0_3 : W.cell? ⟨w.heap.size, 3, none⟩ = some (.int .i64 o.ver) := blk_cell g0 3
  have c0_4 : W.cell? ⟨w.heap.size, 4, none⟩ = some (.string o.cls) := blk_cell g0 4
  have c0_5 : W.cell? ⟨w.heap.size, 5, none⟩ = some (.bool o.term) := blk_cell g0 5
  have c0_6 : W.cell? ⟨w.heap.size, 6, none⟩ = some (.bool o.best) := blk_cell g0 6
  have c0_7 : W.cell? ⟨w.heap.size, 7, none⟩ = some (.slice al o.charge.length cl) := blk_cell g0 7
  have f0 : ∀ j, W.frozen? ⟨w.heap.size, j, none⟩ = false := blk_free g0
  have hB : Below W.heap.size W W := Below.refl _ _
  have G0 := Lib.hid g0; clear g0
  have F0 := Lib.hid f0; clear f0
  have Hw := Lib.hid hw; clear hw
  have HW := Lib.hid (H.out.below Hw.out)
  have hWw := Hw.out.size
  cases hr : rightO o with
  | false =>
    have HE := Lib.hid (chargeR_wrong hr)
    have HRE := Lib.hid hr
    clear hr
    go_wp2_with (go_at_call 15; refine (HR.out _ Hw.out).mono ?_; rintro e w' ⟨rfl, hb⟩; rw [HRE.out]; have hB := bl_next hB hb; clear hb)
    go_ret2
    exact vecOut_nil HE.out (bl_from Hw.out hB)
  | true =>
    have HE := Lib.hid (show chargeR o = bothR (· + ·) (ofR o.charge).2 countV by unfold chargeR; rw [if_pos hr])
    have HRE := Lib.hid hr
    clear hr
    go_upto_region 5 with (first | (go_at_call 15; refine (HR.out _ Hw.out).mono ?_; rintro e w' ⟨rfl, hb⟩; rw [HRE.out]; have hB := bl_next hB hb; have c0_7 := cb hb c0_7; clear hb) | (go_at_call 40; refine (rof4_calls _ (HW.out.below hB) (by omega) (fun p hp => Nat.le_trans (HSZ.out p hp) (by omega))).mono ?_; rintro e w' ⟨x, rfl, hrow, hb⟩; obtain ⟨ax, cx, rfl⟩ := rw_form hrow; have HV := Lib.hid (show VecS w' (.slice ax (ofR o.charge).2.length cx) (ofR o.charge).2 from ⟨sliS_of hrow, ofR_in HI.out⟩); have hB := bl_next hB hb; clear hb hrow))
    obtain ⟨V, rfl⟩ : ∃ V : World, V = w' := ⟨_, rfl⟩
    have HBV := Lib.hid (bl_from Hw.out hB)
    clear hB
    have HLV := Lib.hid (ofR_small o.charge)
    have HNV := Lib.hid (ofR_names HSZ.out)
    go_wp2_with (go_at_call 41; refine (radd4_calls _ (HV.out.below ((Below.refl _ _).alloc (Nat.le_refl _) _)) (count_new _) ⟨by have := HLV.out; omega, by decide⟩ HNV.out (by decide)).mono ?_; rintro e w3 ⟨y, rfl, hrow, hb⟩; obtain ⟨ay, cy, rfl⟩ := rw_form hrow)
    go_ret2
    rw [HE.out]
    have hVw := HBV.out.size
    have hb2 := (HBV.out.alloc hVw (.cells #[.string ⟨#[111, 98, 106, 101, 99, 116, 115]⟩, .int .i64 0, .int .u64 1] 64)).trans (hb.mono (Nat.le_trans hVw (by simp)))
    exact ⟨_, rfl, rw_mono hrow (Nat.le_trans hVw (by simp)), hb2⟩
set_option maxRecDepth 100000 in
set_option maxHeartbeats 16000000 in
theorem ocharge_calls (w : World) {sl : Value} {o : ObjD} (h : ObjS w sl o) (hs : objSmall o) :
    Calls Try.prog 9 #[objV o sl] w (VecOut w (chargeR o)) := by
  have HR := Lib.hid (fun (W : World) (hb : Below w.heap.size w W) => oright_calls W (h.below hb) hs)
  have H := Lib.hid h.1
  have HI := Lib.hid h.1.2
  obtain ⟨_, _, hs5, hs6⟩ := hs
  have HSZ := Lib.hid hs6
  obtain ⟨al, cl, rfl⟩ := h.1.form
  clear h hs6
  unfold objV at HR
  unfold objV
  go_enter Try.func9, Try.ntmps9
  go_upto_region 1 with fail
  first | with_reducible refine name_wp ?_ | with_reducible refine name_calls ?_
  intro W hWeq
  have g0 : W.heap[w.heap.size]? = some (.cells #[.string o.key.kind, .string o.key.space, .string o.key.name, .int .i64 o.ver, .string o.cls, .bool o.term, .bool o.best, .slice al o.charge.length cl] 26) := by rw [hWeq]; repeat (first | (with_reducible exact blk_newAt _ _ (by simp)) | with_reducible refine blk_drew ?_ | with_reducible refine blk_dN ?_ _ | with_reducible refine blk_old ?_ _)
  have hw : Below w.heap.size w W := by rw [hWeq]; repeat (first | with_reducible exact Below.refl _ _ | with_reducible refine Below.drew ?_ | with_reducible refine bl_dN ?_ _ | with_reducible refine Below.alloc ?_ (by simp <;> omega) _)
  clear hWeq
  have hz : w.heap.size + 1 ≤ W.heap.size := by have := blk_lt g0; omega
  have c0_0 : W.cell? ⟨w.heap.size, 0, none⟩ = some (.string o.key.kind) := blk_cell g0 0
  have c0_1 : W.cell? ⟨w.heap.size, 1, none⟩ = some (.string o.key.space) := blk_cell g0 1
  have c0_2 : W.cell? ⟨w.heap.size, 2, none⟩ = some (.string o.key.name) := blk_cell g0 2
  have c0_3 : W.cell? ⟨w.heap.size, 3, none⟩ = some (.int .i64 o.ver) := blk_cell g0 3
  have c0_4 : W.cell? ⟨w.heap.size, 4, none⟩ = some (.string o.cls) := blk_cell g0 4
  have c0_5 : W.cell? ⟨w.heap.size, 5, none⟩ = some (.bool o.term) := blk_cell g0 5
  have c0_6 : W.cell? ⟨w.heap.size, 6, none⟩ = some (.bool o.best) := blk_cell g0 6
  have c0_7 : W.cell? ⟨w.heap.size, 7, none⟩ = some (.slice al o.charge.length cl) := blk_cell g0 7
  have f0 : ∀ j, W.frozen? ⟨w.heap.size, j, none⟩ = false := blk_free g0
  have hB : Below W.heap.size W W := Below.refl _ _
  have G0 := Lib.hid g0; clear g0
  have F0 := Lib.hid f0; clear f0
  have Hw := Lib.hid hw; clear hw
  have HW := Lib.hid (H.out.below Hw.out)
  have hWw := Hw.out.size
  cases hr : rightO o with
  | false =>
    have HE := Lib.hid (chargeR_wrong hr)
    have HRE := Lib.hid hr
    clear hr
    go_wp2_with (go_at_call 14; refine (HR.out _ Hw.out).mono ?_; rintro e w' ⟨rfl, hb⟩; rw [HRE.out]; have hB := bl_next hB hb; clear hb)
    go_ret2
    exact vecOut_nil HE.out (bl_from Hw.out hB)
  | true =>
    have HE := Lib.hid (show chargeR o = bothR (· + ·) (ofR o.charge).2 countV by unfold chargeR; rw [if_pos hr])
    have HRE := Lib.hid hr
    clear hr
    go_upto_region 4 with (first | (go_at_call 14; refine (HR.out _ Hw.out).mono ?_; rintro e w' ⟨rfl, hb⟩; rw [HRE.out]; have hB := bl_next hB hb; have c0_7 := cb hb c0_7; clear hb) | (go_at_call 38; refine (of_calls _ (HW.out.below hB) (by omega) (fun p hp => Nat.le_trans (HSZ.out p hp) (by omega))).mono ?_; rintro e w' ⟨x, rfl, hrow, hb⟩; obtain ⟨ax, cx, rfl⟩ := rw_form hrow; have HV := Lib.hid (show VecS w' (.slice ax (ofR o.charge).2.length cx) (ofR o.charge).2 from ⟨sliS_of hrow, ofR_in HI.out⟩); have hB := bl_next hB hb; clear hb hrow))
    obtain ⟨V, rfl⟩ : ∃ V : World, V = w' := ⟨_, rfl⟩
    have HBV := Lib.hid (bl_from Hw.out hB)
    clear hB
    have HLV := Lib.hid (ofR_small o.charge)
    have HNV := Lib.hid (ofR_names HSZ.out)
    go_upto_region 5 with (go_at_call 38; refine (of_calls _ (countR_new _) (by decide) (by decide)).mono ?_; rintro e w3 ⟨y, rfl, hrow, hb⟩; rw [count_of] at hrow ⊢; obtain ⟨ay, cy, rfl⟩ := rw_form hrow)
    have hVw := HBV.out.size
    have HB3 := Lib.hid (show Below V.heap.size V w3 from ((Below.refl V.heap.size V).alloc (Nat.le_refl _) _).trans (hb.mono (by simp)))
    have HV3 := Lib.hid (HV.out.below HB3.out)
    have HC3 := Lib.hid (show VecS w3 (.slice ay 1 cy) countV from ⟨sliS_of hrow, by decide⟩)
    have hV3 := HB3.out.size
    clear hb hrow
    go_wp2_with (go_at_call 39; refine (add_calls _ HV3.out HC3.out ⟨by have := HLV.out; omega, by decide⟩ HNV.out (by decide)).mono ?_; rintro e w4 ⟨z, rfl, hrow, hb⟩; obtain ⟨az, cz, rfl⟩ := rw_form hrow)
    go_ret2
    rw [HE.out]
    exact ⟨_, rfl, rw_mono hrow (Nat.le_trans hVw hV3), (HBV.out.trans (HB3.out.mono hVw)).trans (hb.mono (Nat.le_trans hVw hV3))⟩
end Go.Proofs.Yteomicjjaajblaa

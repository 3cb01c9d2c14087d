import Derived.Test.YthhfcambdmdgfaaEvj
import Derived.Test.YthhfcambdmdgfaaPlb
namespace Go.Proofs.Ythhfcambdmdgfaa
open Go.RowKit Go.Maps Srt
set_option linter.unusedVariables false
set_option linter.unusedSimpArgs false
/-! ### Sorted: the plain law -/
def cntO (o : ObjD) (l : List ObjD) : Nat := (l.filter fun z => decide (z = o)).length
theorem cnt_stab {l s : List ObjD} (h : Stab kTO l s) (o : ObjD) : cntO o l = cntO o s := by
  unfold cntO
  have e : ∀ q : List ObjD, q.filter (fun z => decide (z = o)) = (q.filter (fun z => decide (kTO z = kTO o))).filter (fun z => decide (z = o)) := fun q => by
    rw [List.filter_filter]
    congr 1; funext z
    by_cases hz : z = o
    · subst hz; simp
    · simp [hz]
  rw [e l, e s, h (kTO o)]
theorem cnt_succ {l : List ObjD} {k : Nat} (h : k < l.length) (o : ObjD) : cntO o (l.take (k + 1)) = cntO o (l.take k) + (if l[k]'h = o then 1 else 0) := by
  unfold cntO
  rw [List.take_succ_eq_append_getElem h, List.filter_append, List.length_append]
  congr 1
  by_cases e : l[k]'h = o <;> simp [e]
theorem cnt_le (o : ObjD) (l : List ObjD) : cntO o l ≤ l.length := List.length_filter_le _ _
def keq (a b : KeyD) : Bool := decide (a.kind = b.kind) && (decide (a.space = b.space) && decide (a.name = b.name))
theorem keq_eq {a b : KeyD} : keq a b = true ↔ a = b := by
  unfold keq
  constructor
  · intro h
    simp only [Bool.and_eq_true, decide_eq_true_eq] at h
    exact keyD_ext h.1 h.2.1 h.2.2
  · intro h; subst h; simp
/-- k is not i, and has its key. -/
def dupK (l : List ObjD) (i k : Nat) : Bool := !decide (k = i) && keq (l.getD k zeroO).key (l.getD i zeroO).key
def inB (l : List ObjD) (i : Nat) (b : Bool) (k : Nat) : Bool := b && (List.range k).all fun j => !dupK l i j
theorem inB_zero (l : List ObjD) (i : Nat) (b : Bool) : inB l i b 0 = b := by simp [inB]
theorem inB_succ (l : List ObjD) (i : Nat) (b : Bool) (k : Nat) : inB l i b (k + 1) = (inB l i b k && !dupK l i k) := by
  unfold inB; rw [List.range_succ, List.all_append]; simp [Bool.and_assoc]
def sgl (l : List ObjD) : Nat → Bool
  | 0 => true
  | i + 1 => inB l i (sgl l i) l.length && rightO (l.getD i zeroO)
theorem sgl_iff (l : List ObjD) : ∀ n, sgl l n = true ↔ ∀ i, i < n → rightO (l.getD i zeroO) = true ∧ ∀ k, k < l.length → k ≠ i → (l.getD k zeroO).key ≠ (l.getD i zeroO).key
  | 0 => ⟨fun _ i h => by omega, fun _ => rfl⟩
  | n + 1 => by
    have ih := sgl_iff l n
    unfold sgl inB
    rw [Bool.and_eq_true, Bool.and_eq_true, ih, List.all_eq_true]
    constructor
    · rintro ⟨⟨h1, h2⟩, h3⟩ i hi
      by_cases e : i = n
      · subst e
        refine ⟨h3, fun k hk hne q => ?_⟩
        have := h2 k (List.mem_range.2 hk)
        unfold dupK at this
        rw [decide_eq_false hne, keq_eq.2 q] at this
        cases this
      · exact h1 i (by omega)
    · intro h
      refine ⟨⟨fun i hi => h i (by omega), fun k hk => ?_⟩, (h n (by omega)).1⟩
      unfold dupK
      by_cases e : k = n
      · rw [decide_eq_true e]; rfl
      · have := (h n (by omega)).2 k (List.mem_range.1 hk) e
        cases q : keq (l.getD k zeroO).key (l.getD n zeroO).key with
        | true => exact absurd (keq_eq.1 q) this
        | false => simp
theorem stab_perm {l s : List ObjD} (h : Stab kTO l s) : l.Perm s := by
  rw [List.perm_iff_count]
  intro o
  have := cnt_stab h o
  unfold cntO at this
  rw [List.count_eq_length_filter, List.count_eq_length_filter]
  have e : (fun z => z == o) = fun z : ObjD => decide (z = o) := by funext z; rw [Bool.eq_iff_iff]; simp
  rw [show (fun x => x == o) = fun z : ObjD => decide (z = o) from e]
  exact this
theorem nodup_at {l : List ObjD} (h : (l.map kTO).Nodup) {i k : Nat} (hi : i < l.length) (hk : k < l.length) (hne : k ≠ i) : kTO (l.getD k zeroO) ≠ kTO (l.getD i zeroO) := by
  rw [List.Nodup, List.pairwise_map, List.pairwise_iff_getElem] at h
  intro e
  have e1 : l.getD k zeroO = l[k]'hk := by simp [List.getD_eq_getElem?_getD, hk]
  have e2 : l.getD i zeroO = l[i]'hi := by simp [List.getD_eq_getElem?_getD, hi]
  rw [e1, e2] at e
  rcases Nat.lt_or_gt_of_ne hne with q | q
  · exact h k i hk hi q e
  · exact h i k hi hk q e.symm
theorem relMax {l : List ObjD} (hv : ∀ o ∈ l, in64 o.ver) (hl : l.length ≤ 1000) : relB 9223372036854775807 (srtX kTO l) = sgl l l.length := by
  have hp : l.Perm (srtX kTO l) := stab_perm (Stab_symm (srtX_stab l))
  have hnd : (l.map kTO).Nodup ↔ ((srtX kTO l).map kTO).Nodup := (hp.map kTO).nodup_iff
  have hrel : relB 9223372036854775807 (srtX kTO l) = okL (relP 9223372036854775807) kTO (srtX kTO l) := by
    unfold relB; rw [srtX_len, decide_eq_true hl]; simp
  rw [hrel, Bool.eq_iff_iff, okL_iff, sgl_iff]
  constructor
  · rintro ⟨h1, h2⟩ i hi
    have hg : l.getD i zeroO ∈ l := by rw [List.getD_eq_getElem?_getD, List.getElem?_eq_getElem hi]; exact List.getElem_mem hi
    refine ⟨?_, fun k hk hne e => ?_⟩
    · have := h1 _ (srtX_mem.2 hg)
      unfold relP at this
      rw [Bool.and_eq_true] at this
      exact this.1
    · have n1 : ((srtX kTO l).map kTO).Nodup := by
        rw [List.Nodup, List.pairwise_map]
        exact h2.imp (fun {a b} h => ltB_ne h)
      exact nodup_at (hnd.2 n1) hi hk hne (by unfold kTO; rw [e])
  · intro h
    have hr : ∀ o ∈ l, rightO o = true := fun o ho => by
      obtain ⟨i, hi, rfl⟩ := List.mem_iff_getElem.1 ho
      have := (h i hi).1
      rwa [List.getD_eq_getElem?_getD, List.getElem?_eq_getElem hi] at this
    have n0 : (l.map kTO).Nodup := by
      rw [List.Nodup, List.pairwise_map, List.pairwise_iff_getElem]
      intro i j hi hj hij e
      have q := (h i hi).2 j hj (by omega)
      rw [List.getD_eq_getElem?_getD, List.getElem?_eq_getElem hj, List.getD_eq_getElem?_getD, List.getElem?_eq_getElem hi] at q
      have k1 := hr _ (List.getElem_mem hi); have k2 := hr _ (List.getElem_mem hj)
      have f : ∀ o, rightO o = true → keyB o.key.kind o.key.space o.key.name = true := fun o ho => by
        unfold rightO at ho
        simp only [Bool.and_eq_true] at ho
        exact ho.1.1.1.1
      obtain ⟨z1, z2, z3⟩ := keyText_inj (f _ k1) (f _ k2) e
      exact q (keyD_ext z1.symm z2.symm z3.symm)
    have n1 := hnd.1 n0
    refine ⟨fun o ho => ?_, ?_⟩
    · have ho' := srtX_mem.1 ho
      unfold relP
      rw [hr o ho', decide_eq_true (by have := (hv o ho').2; omega)]; rfl
    · have hs := srtX_srt (t := kTO) l
      rw [List.Nodup, List.pairwise_map] at n1
      exact (hs.and n1).imp (fun {a b} h => by
        rcases ltB_total h.2 with q | q
        · exact q
        · rw [h.1] at q; cases q)
theorem relMax_same {l : List ObjD} (h : relB 9223372036854775807 l = true) : srtX kTO l = l := by
  unfold relB at h
  simp only [Bool.and_eq_true] at h
  exact srtX_same ((okL_iff.1 h.1.1).2.imp (fun {a b} q => ltB_asymm q))
/-! ### The walk -/
theorem sortedS_calls (w : World) {v : Value} {xs : List OX} (hx : ObjsS w v xs) (hs : OSmall (oxs xs)) (hl : xs.length ≤ 1000) :
    Calls Try.prog 19 #[v] w fun e w' => ∃ A c, e = .returned (.slice A xs.length c) ∧ Hid (∃ zs, ObjsS w' (.slice A xs.length c) zs ∧ oxs zs = srtX kTO (oxs xs) ∧ zs.length = xs.length) ∧ Below w.heap.size w w' :=
  (evsorted_calls w hx hs (by omega)).mono fun e w' ⟨v2, zs, q1, q2, q3, q4⟩ => by
    have hz : ObjsS w' v2 zs := q2.objsS (fun p hp => by
      have hm : p.1 ∈ oxs zs := List.mem_map.2 ⟨p, hp, rfl⟩
      rw [q3] at hm
      obtain ⟨r, hr, hre⟩ := List.mem_map.1 (srtX_mem.1 hm)
      rw [← hre]; exact (hx.2 r hr).oIn)
    have hlen : zs.length = xs.length := by rw [← oxs_len zs, q3, srtX_len, oxs_len]
    obtain ⟨A, c, rfl⟩ := hz.form
    rw [hlen] at q1 hz
    exact ⟨A, c, q1, Lib.hid ⟨zs, hz, q3, hlen⟩, q4⟩
theorem oxs_get {xs : List OX} {k : Nat} (h : k < xs.length) : (oxs xs).getD k zeroO = (xs[k]'h).1 := by
  simp [oxs, List.getD_eq_getElem?_getD, h]
theorem oxs_getE {xs : List OX} {k : Nat} (h : k < xs.length) (h' : k < (oxs xs).length) : (oxs xs)[k]'h' = (xs[k]'h).1 := by simp [oxs]
set_option maxRecDepth 100000 in
set_option maxHeartbeats 16000000 in
theorem eventSorted_law (w : World) {ol : Value} {xs : List OX} (hx : ObjsS w ol xs) :
    Calls Try.prog 4 #[ol] w fun e w' => e = .returned (.bool true) ∧ Below w.heap.size w w' := by
  have HX := Lib.hid hx
  obtain ⟨al, cl, rfl⟩ := hx.form
  clear hx
  have hB := Below.refl w.heap.size w
  have HFA : Hid (Calls Try.prog 12 #[.agg #[.int .i64 0, .string ⟨#[]⟩, .string ⟨#[]⟩, .string ⟨#[]⟩, .int .i64 0, .string ⟨#[]⟩, .bool false, .bool false, .slice none 0 0, .int .i64 0, .slice al xs.length cl]] w (FitE w zeroO xs)) := Lib.hid (fits7_calls w 0 0 (zeroO_S w) HX.out)
  go_enter Try.func4, Try.ntmps4
  go_upto_region 2 with (go_at_call 12; ((with_reducible refine HFA.out.mono ?_); rintro e w' ⟨f1, rfl, hf1, hb⟩; have HF1 := Lib.hid hf1; clear hf1; have hB := bl_next hB hb; clear hb))
  cases f1 with
  | false =>
    go_wp2_with (go_at_call 13; refine (alive7_calls _).mono ?_; rintro e w' ⟨rfl, hb⟩; have hB := bl_next hB hb; clear hb)
    go_ret
    exact ⟨rfl, hB⟩
  | true =>
  have HSX := Lib.hid (HF1.out rfl).2.1
  have hlx : xs.length ≤ 60 := (HF1.out rfl).2.2
  clear HF1 HFA
  obtain ⟨W, rfl⟩ : ∃ W : World, W = w' := ⟨_, rfl⟩
  have HWX := Lib.hid (HX.out.below hB)
  have HB0 := Lib.hid hB
  clear hB
  have hB := Below.refl W.heap.size W
  have HC1 := Lib.hid (sortedS_calls W HWX.out HSX.out (by omega))
  go_upto_region 5 with (go_at_call 19; ((with_reducible refine HC1.out.mono ?_); rintro e w1 ⟨A, c, rfl, HZ, hb⟩; have HB1 := Lib.hid hb; clear hb))
  obtain ⟨zs, hz0, hz1, hz2⟩ := HZ.out
  have HZS := Lib.hid hz0; have HZE := Lib.hid hz1; have HZL := Lib.hid hz2
  have HSZ := Lib.hid (show OSmall (oxs zs) by rw [hz1]; exact small_sorted HSX.out)
  clear hz0 hz1 hz2 HZ HC1
  obtain ⟨W1, rfl⟩ : ∃ W : World, W = w1 := ⟨_, rfl⟩
  have HB1' := HB1
  have HX1 := Lib.hid (HWX.out.below HB1.out)
  clear hB
  have hB := Below.refl W1.heap.size W1
  have HC2 : Hid (Calls Try.prog 19 #[.slice A xs.length c] W1 fun e w' => ∃ A' c', e = .returned (.slice A' xs.length c') ∧ Hid (∃ zs', ObjsS w' (.slice A' xs.length c') zs' ∧ oxs zs' = oxs zs ∧ zs'.length = xs.length) ∧ Below W1.heap.size W1 w') := Lib.hid (by
    have h := sortedS_calls W1 HZS.out HSZ.out (by rw [HZL.out]; omega)
    rw [HZL.out] at h
    refine h.mono fun e w' q => ?_
    obtain ⟨A', c', q1, q2, q3⟩ := q
    obtain ⟨zs', z1, z2, z3⟩ := q2.out
    exact ⟨A', c', q1, Lib.hid ⟨zs', z1, by rw [z2, HZE.out, srtX_same (srtX_srt _)], z3⟩, q3⟩)
  have HOB : Hid (∀ (U : World) (v v2 : Value) (us vs : List OX), ObjsS U v us → ObjsS U v2 vs → oxs us = oxs zs → oxs vs = oxs zs → Calls Try.prog 18 #[v, v2] U fun e w' => e = .returned (.bool true) ∧ Below U.heap.size U w') := Lib.hid fun U v v2 us vs h1 h2 h3 h4 =>
    (robjs_calls U h1 h2 (by rw [← oxs_len, h3, oxs_len, HZL.out]; omega) (by rw [← oxs_len, h4, oxs_len, HZL.out]; omega) (by rw [h3]; exact HSZ.out) (by rw [h4]; exact HSZ.out)).mono fun e w' q => ⟨q.1.trans (ret_bool (decide_eq_true (by rw [h3, h4]))), q.2⟩
  go_upto_region 6 with (first | (go_at_call 19; ((with_reducible refine HC2.out.mono ?_); rintro e w2 ⟨A', c', rfl, HZ', hb⟩; have HZB := Lib.hid (show ObjsS w2 (.slice A xs.length c) zs from HZS.out.below hb); have hB := bl_next hB hb; clear hb)) | (go_at_call 18; ((with_reducible refine (show Calls Try.prog 18 #[.slice A' xs.length c', .slice A xs.length c] _ _ from (by obtain ⟨zs', z1, z2, z3⟩ := HZ'.out; exact HOB.out _ _ _ zs' zs z1 HZB.out z2 rfl)).mono ?_); rintro e w3 ⟨rfl, hb⟩; have hB := bl_next hB hb; clear hb)))
  obtain ⟨V, rfl⟩ : ∃ U : World, U = w3 := ⟨_, rfl⟩
  have HBV := Lib.hid (bl_next (bl_next HB0.out HB1.out) hB)
  have HXV := Lib.hid (HX1.out.below hB); have HZV := Lib.hid (HZS.out.below hB)
  clear hB HX1 HC2 HZ' HZB HOB HZS HB1 HB1' HWX HX
  have hB := Below.refl V.heap.size V
  obtain ⟨n, hn⟩ : ∃ n, xs.length = n := ⟨_, rfl⟩
  rw [hn] at HZL hlx
  rw [hn] at HXV HZV
  rw [hn]
  have HN := Lib.hid hn
  have HST := Lib.hid (show Stab kTO (oxs xs) (oxs zs) by rw [HZE.out]; exact Stab_symm (srtX_stab _))
  have HSRT := Lib.hid (show SrtL kTO (oxs zs) by rw [HZE.out]; exact srtX_srt _)
  clear hn
  go_wp2_with fail
  go_loopw [6, 7] (fun s6 s7 wr => ∃ (i : Nat) (sg : Bool), s7 = .int .i64 (i : Int) ∧ i ≤ n ∧ s6 = .bool sg ∧ Hid (sg = sgl (oxs xs) i) ∧ Hid (Below V.heap.size V wr)) (fun _ s7 _ => n - (intOf s7).toNat)
  case atStart => exact ⟨0, true, rfl, Nat.zero_le _, rfl, Lib.hid rfl, Lib.hid hB⟩
  case round =>
    clear hB
    obtain ⟨i, sg, rfl, hi, rfl, HSG, HBr⟩ := hrel
    by_cases hin : i < n
    · have hiI : (i : Int) < n := by omega
      have hix : i < xs.length := by rw [HN.out]; exact hin
      have hiz : i < zs.length := by rw [HZL.out]; exact hin
      obtain ⟨b1, o1, d1, he1, q1, s1⟩ := (show ObjsS V (.slice al xs.length cl) xs by rw [HN.out]; exact HXV.out).at' hix
      obtain ⟨b2, o2, d2, he2, q2, s2⟩ := (show ObjsS V (.slice A zs.length c) zs by rw [HZL.out]; exact HZV.out).at' hiz
      cases he1
      cases he2
      have HGX := Lib.hid (oxs_get hix)
      have zx := small_at HSX.out hix
      have HZI := Lib.hid (oxs_getE hiz (by rw [oxs_len]; exact hiz))
      have zz := small_at HSZ.out hiz
      generalize xs[i]'hix = x at q1 s1 HGX zx
      generalize hZ0 : zs[i]'hiz = z at q2 s2 HZI zz
      obtain ⟨x, sx⟩ := x
      obtain ⟨z, sz⟩ := z
      simp only at HGX zx s1 s2 HZI zz
      obtain ⟨ax, cx', rfl⟩ := s1.1.form
      have QX := Lib.hid q1; have SX := Lib.hid s1; have QZ := Lib.hid q2
      have ZX := Lib.hid zx
      have hcx : x.charge.length ≤ 300 := zx.2.2.1
      have hzz1 := zz.1.1; have hzz2 := zz.1.2.1; have hzz3 := zz.1.2.2
      clear q1 s1 q2 s2 zx zz hZ0
      have HB2 := HBr
      go_wp2_with fail
      go_loopw [6, 8, 9, 10] (fun s6 s8 s9 s10 wr => ∃ (k : Nat) (sg2 : Bool) (u v : Nat), s10 = .int .i64 (k : Int) ∧ k ≤ n ∧ s6 = .bool sg2 ∧ s8 = .int .i64 (u : Int) ∧ s9 = .int .i64 (v : Int) ∧ u ≤ k ∧ v ≤ k ∧ Hid (sg2 = inB (oxs xs) i sg k ∧ u = cntO x ((oxs xs).take k) ∧ v = cntO x ((oxs zs).take k)) ∧ Hid (Below V.heap.size V wr)) (fun _ _ _ s10 _ => n - (intOf s10).toNat)
      case atStart => exact ⟨0, sg, 0, 0, rfl, Nat.zero_le _, rfl, rfl, rfl, Nat.le_refl _, Nat.le_refl _, Lib.hid ⟨(inB_zero _ _ _).symm, rfl, rfl⟩, HB2⟩
      case round =>
        clear HB2 HBr
        obtain ⟨k, sg2, u, v, rfl, hk, rfl, rfl, rfl, hu, hv, HI, HBr⟩ := hrel
        by_cases hkn : k < n
        · have hkI : (k : Int) < n := by omega
          have hkx : k < xs.length := by rw [HN.out]; exact hkn
          have hkz : k < zs.length := by rw [HZL.out]; exact hkn
          obtain ⟨b1', o1', d1', he1, q1, s1⟩ := (show ObjsS V (.slice (some ⟨b1, o1, none⟩) xs.length cl) xs by rw [HN.out]; exact HXV.out).at' hkx
          obtain ⟨b2', o2', d2', he2, q2, s2⟩ := (show ObjsS V (.slice (some ⟨b2, o2, none⟩) zs.length c) zs by rw [HZL.out]; exact HZV.out).at' hkz
          cases he1
          cases he2
          have HGP := Lib.hid (oxs_get hkx)
          have HC1 := Lib.hid (cnt_succ (l := oxs xs) (k := k) (by rw [oxs_len]; exact hkx) x)
          have HC2 := Lib.hid (cnt_succ (l := oxs zs) (k := k) (by rw [oxs_len]; exact hkz) x)
          rw [oxs_getE hkx] at HC1
          rw [oxs_getE hkz] at HC2
          have hcp : (xs[k]'hkx).1.charge.length ≤ 300 := (small_at HSX.out hkx).2.2.1
          have hcq : (zs[k]'hkz).1.charge.length ≤ 300 := (small_at HSZ.out hkz).2.2.1
          generalize xs[k]'hkx = p at q1 s1 HGP HC1 hcp
          generalize zs[k]'hkz = q at q2 s2 HC2 hcq
          obtain ⟨p, sp⟩ := p
          obtain ⟨q, sq⟩ := q
          simp only at HGP s1 s2 HC1 HC2 hcp hcq
          obtain ⟨U, rfl⟩ : ∃ U : World, U = wr := ⟨_, rfl⟩
          have QP := Lib.hid (q1.below HBr.out); have QQ := Lib.hid (q2.below HBr.out); have QXU := Lib.hid (QX.out.below HBr.out)
          have HS1 := Lib.hid (fun (U' : World) (h : Below U.heap.size U U') => rosame_calls U' ((s1.below HBr.out).below h) ((SX.out.below HBr.out).below h) (by omega))
          have HS2 := Lib.hid (fun (U' : World) (h : Below U.heap.size U U') => rosame_calls U' ((s2.below HBr.out).below h) ((SX.out.below HBr.out).below h) (by omega))
          unfold objV at HS1 HS2
          clear q1 s1 q2 s2
          rw [sameO_eq] at HS1 HS2
          obtain ⟨t1, ht1⟩ : ∃ b, decide (p = x) = b := ⟨_, rfl⟩
          obtain ⟨t2, ht2⟩ : ∃ b, decide (q = x) = b := ⟨_, rfl⟩
          have HT1 := Lib.hid ht1; have HT2 := Lib.hid ht2
          rw [ht1] at HS1; rw [ht2] at HS2
          have HC1' := Lib.hid (show cntO x ((oxs xs).take (k + 1)) = u + (if t1 then 1 else 0) by rw [HC1.out, ← HI.out.2.1]; congr 1; cases t1 <;> simp at ht1 <;> simp [ht1])
          have HC2' := Lib.hid (show cntO x ((oxs zs).take (k + 1)) = v + (if t2 then 1 else 0) by rw [HC2.out, ← HI.out.2.2]; congr 1; cases t2 <;> simp at ht2 <;> simp [ht2])
          obtain ⟨kq, hkq⟩ : ∃ b, keq p.key x.key = b := ⟨_, rfl⟩
          have HKQ := Lib.hid (show (decide (p.key.kind = x.key.kind) && (decide (p.key.space = x.key.space) && decide (p.key.name = x.key.name))) = kq from hkq)
          have HDU := Lib.hid (show inB (oxs xs) i sg (k + 1) = (sg2 && !(!decide (k = i) && kq)) by rw [inB_succ, ← HI.out.1]; unfold dupK; rw [HGP.out, HGX.out, hkq])
          clear ht1 ht2 hkq HC1 HC2
          have hB := Below.refl U.heap.size U
          go_upto_region 17 with fail
          have hB := hB.drew
          refine region_seq (fun w' => Below U.heap.size U w') [(0, true), (1, true), (2, true), (3, true), (4, true), (5, true), (6, true), (7, true), (8, false), (9, true)] (by kernel_rfl) (by kernel_rfl) (fun _ _ _ _ h => h) hB ?_
          try generalize World.drew _ = wS at hB ⊢
          refine seq_take (v := ?_) (a' := ?_) (some 49) rfl rfl (by rfl) ?_ ?_ ?_
          rotate_left; rotate_left
          · intro w' hS; go_simp; with_reducible rfl
          · simp only [Act.put, List.setIfInBounds_toArray, List.set_cons_zero, List.set_cons_succ]; rfl
          refine seq_take (v := ?_) (a' := ?_) (some 50) rfl rfl (by rfl) ?_ ?_ ?_
          rotate_left; rotate_left
          · intro w' hS; go_simp; with_reducible rfl
          · simp only [Act.put, List.setIfInBounds_toArray, List.set_cons_zero, List.set_cons_succ]; rfl
          refine seq_take (v := ?_) (a' := ?_) (some 51) rfl rfl (by rfl) ?_ ?_ ?_
          rotate_left; rotate_left
          · intro w' hS; go_simp; with_reducible rfl
          · simp only [Act.put, List.setIfInBounds_toArray, List.set_cons_zero, List.set_cons_succ]; rfl
          refine seq_take (v := ?_) (a' := ?_) (some 52) rfl rfl (by rfl) ?_ ?_ ?_
          rotate_left; rotate_left
          · intro w' hS; have p1 := QP.out.below hS; have p2 := QXU.out.below hS; have a0 := p1.c0; have a1 := p1.c1; have a2 := p1.c2; have a3 := p1.c3; have a4 := p1.c4; have a5 := p1.c5; have a6 := p1.c6; have a7 := p1.c7; have e0 := p2.c0; have e1 := p2.c1; have e2 := p2.c2; have e3 := p2.c3; have e4 := p2.c4; have e5 := p2.c5; have e6 := p2.c6; have e7 := p2.c7; simp only at a0 a1 a2 a3 a4 a5 a6 a7 e0 e1 e2 e3 e4 e5 e6 e7; go_simp; with_reducible rfl
          · simp only [Act.put, List.setIfInBounds_toArray, List.set_cons_zero, List.set_cons_succ]; rfl
          refine seq_take (v := ?_) (a' := ?_) (some 53) rfl rfl (by rfl) ?_ ?_ ?_
          rotate_left; rotate_left
          · intro w' hS; go_simp; with_reducible rfl
          · simp only [Act.put, List.setIfInBounds_toArray, List.set_cons_zero, List.set_cons_succ]; rfl
          refine seq_take (v := ?_) (a' := ?_) (some 54) rfl rfl (by rfl) ?_ ?_ ?_
          rotate_left; rotate_left
          · intro w' hS; go_simp; with_reducible rfl
          · simp only [Act.put, List.setIfInBounds_toArray, List.set_cons_zero, List.set_cons_succ]; rfl
          refine seq_take (v := ?_) (a' := ?_) (some 55) rfl rfl (by rfl) ?_ ?_ ?_
          rotate_left; rotate_left
          · intro w' hS; go_simp; with_reducible rfl
          · simp only [Act.put, List.setIfInBounds_toArray, List.set_cons_zero, List.set_cons_succ]; rfl
          refine seq_take (v := ?_) (a' := ?_) (some 56) rfl rfl (by rfl) ?_ ?_ ?_
          rotate_left; rotate_left
          · intro w' hS; have p1 := QP.out.below hS; have p2 := QXU.out.below hS; have a0 := p1.c0; have a1 := p1.c1; have a2 := p1.c2; have a3 := p1.c3; have a4 := p1.c4; have a5 := p1.c5; have a6 := p1.c6; have a7 := p1.c7; have e0 := p2.c0; have e1 := p2.c1; have e2 := p2.c2; have e3 := p2.c3; have e4 := p2.c4; have e5 := p2.c5; have e6 := p2.c6; have e7 := p2.c7; simp only at a0 a1 a2 a3 a4 a5 a6 a7 e0 e1 e2 e3 e4 e5 e6 e7; go_simp; with_reducible rfl
          · simp only [Act.put, List.setIfInBounds_toArray, List.set_cons_zero, List.set_cons_succ]; rfl
          refine seq_call (args := ?_) Try.func24 (by kernel_rfl) rfl (some 57) rfl rfl (by rfl) rfl ?_ ?_
          rotate_left
          · simp only [List.map_toArray, List.map_cons, List.map_nil]; go_simp; rfl
          with_reducible refine (HS1.out _ hB).mono ?_
          rintro e w' ⟨rfl, hb⟩
          refine ⟨_, rfl, bl_next (by repeat (first | with_reducible exact hB | refine Below.alloc ?_ (by have := hB.size; simp; omega) _ | refine bl_dN ?_ _ | refine Below.drew ?_ | refine Below.setCell ?_ (by have := hB.size; simp; omega) _)) hb, ?_⟩
          have hB := bl_next (by repeat (first | with_reducible exact hB | refine Below.alloc ?_ (by have := hB.size; simp; omega) _ | refine bl_dN ?_ _ | refine Below.drew ?_ | refine Below.setCell ?_ (by have := hB.size; simp; omega) _)) hb; clear hb
          simp only [Act.put, List.setIfInBounds_toArray, List.set_cons_zero, List.set_cons_succ]
          refine seq_take (v := ?_) (a' := ?_) (some 11) rfl rfl (by rfl) ?_ ?_ ?_
          rotate_left; rotate_left
          · intro w' hS; go_simp; with_reducible rfl
          · simp only [Act.put, List.setIfInBounds_toArray, List.set_cons_zero, List.set_cons_succ]; rfl
          refine seq_done ?_
          go_upto_region 18 with fail
          have hB := hB.drew
          refine region_seq (fun w' => Below U.heap.size U w') [(0, true), (1, true), (2, true), (3, true), (4, true), (5, true), (6, true), (7, true), (8, false), (9, true)] (by kernel_rfl) (by kernel_rfl) (fun _ _ _ _ h => h) hB ?_
          try generalize World.drew _ = wS at hB ⊢
          refine seq_take (v := ?_) (a' := ?_) (some 58) rfl rfl (by rfl) ?_ ?_ ?_
          rotate_left; rotate_left
          · intro w' hS; go_simp; with_reducible rfl
          · simp only [Act.put, List.setIfInBounds_toArray, List.set_cons_zero, List.set_cons_succ]; rfl
          refine seq_take (v := ?_) (a' := ?_) (some 59) rfl rfl (by rfl) ?_ ?_ ?_
          rotate_left; rotate_left
          · intro w' hS; go_simp; with_reducible rfl
          · simp only [Act.put, List.setIfInBounds_toArray, List.set_cons_zero, List.set_cons_succ]; rfl
          refine seq_take (v := ?_) (a' := ?_) (some 60) rfl rfl (by rfl) ?_ ?_ ?_
          rotate_left; rotate_left
          · intro w' hS; go_simp; with_reducible rfl
          · simp only [Act.put, List.setIfInBounds_toArray, List.set_cons_zero, List.set_cons_succ]; rfl
          refine seq_take (v := ?_) (a' := ?_) (some 61) rfl rfl (by rfl) ?_ ?_ ?_
          rotate_left; rotate_left
          · intro w' hS; have p1 := QQ.out.below hS; have p2 := QXU.out.below hS; have a0 := p1.c0; have a1 := p1.c1; have a2 := p1.c2; have a3 := p1.c3; have a4 := p1.c4; have a5 := p1.c5; have a6 := p1.c6; have a7 := p1.c7; have e0 := p2.c0; have e1 := p2.c1; have e2 := p2.c2; have e3 := p2.c3; have e4 := p2.c4; have e5 := p2.c5; have e6 := p2.c6; have e7 := p2.c7; simp only at a0 a1 a2 a3 a4 a5 a6 a7 e0 e1 e2 e3 e4 e5 e6 e7; go_simp; with_reducible rfl
          · simp only [Act.put, List.setIfInBounds_toArray, List.set_cons_zero, List.set_cons_succ]; rfl
          refine seq_take (v := ?_) (a' := ?_) (some 62) rfl rfl (by rfl) ?_ ?_ ?_
          rotate_left; rotate_left
          · intro w' hS; go_simp; with_reducible rfl
          · simp only [Act.put, List.setIfInBounds_toArray, List.set_cons_zero, List.set_cons_succ]; rfl
          refine seq_take (v := ?_) (a' := ?_) (some 63) rfl rfl (by rfl) ?_ ?_ ?_
          rotate_left; rotate_left
          · intro w' hS; go_simp; with_reducible rfl
          · simp only [Act.put, List.setIfInBounds_toArray, List.set_cons_zero, List.set_cons_succ]; rfl
          refine seq_take (v := ?_) (a' := ?_) (some 64) rfl rfl (by rfl) ?_ ?_ ?_
          rotate_left; rotate_left
          · intro w' hS; go_simp; with_reducible rfl
          · simp only [Act.put, List.setIfInBounds_toArray, List.set_cons_zero, List.set_cons_succ]; rfl
          refine seq_take (v := ?_) (a' := ?_) (some 65) rfl rfl (by rfl) ?_ ?_ ?_
          rotate_left; rotate_left
          · intro w' hS; have p1 := QQ.out.below hS; have p2 := QXU.out.below hS; have a0 := p1.c0; have a1 := p1.c1; have a2 := p1.c2; have a3 := p1.c3; have a4 := p1.c4; have a5 := p1.c5; have a6 := p1.c6; have a7 := p1.c7; have e0 := p2.c0; have e1 := p2.c1; have e2 := p2.c2; have e3 := p2.c3; have e4 := p2.c4; have e5 := p2.c5; have e6 := p2.c6; have e7 := p2.c7; simp only at a0 a1 a2 a3 a4 a5 a6 a7 e0 e1 e2 e3 e4 e5 e6 e7; go_simp; with_reducible rfl
          · simp only [Act.put, List.setIfInBounds_toArray, List.set_cons_zero, List.set_cons_succ]; rfl
          refine seq_call (args := ?_) Try.func24 (by kernel_rfl) rfl (some 66) rfl rfl (by rfl) rfl ?_ ?_
          rotate_left
          · simp only [List.map_toArray, List.map_cons, List.map_nil]; go_simp; rfl
          with_reducible refine (HS2.out _ hB).mono ?_
          rintro e w' ⟨rfl, hb⟩
          refine ⟨_, rfl, bl_next (by repeat (first | with_reducible exact hB | refine Below.alloc ?_ (by have := hB.size; simp; omega) _ | refine bl_dN ?_ _ | refine Below.drew ?_ | refine Below.setCell ?_ (by have := hB.size; simp; omega) _)) hb, ?_⟩
          have hB := bl_next (by repeat (first | with_reducible exact hB | refine Below.alloc ?_ (by have := hB.size; simp; omega) _ | refine bl_dN ?_ _ | refine Below.drew ?_ | refine Below.setCell ?_ (by have := hB.size; simp; omega) _)) hb; clear hb
          simp only [Act.put, List.setIfInBounds_toArray, List.set_cons_zero, List.set_cons_succ]
          refine seq_take (v := ?_) (a' := ?_) (some 12) rfl rfl (by rfl) ?_ ?_ ?_
          rotate_left; rotate_left
          · intro w' hS; go_simp; with_reducible rfl
          · simp only [Act.put, List.setIfInBounds_toArray, List.set_cons_zero, List.set_cons_succ]; rfl
          refine seq_done ?_
          cases t1 with
          | false =>
            cases t2 with
            | false =>
              go_upto_region 23 with fail
              by_cases hki : k = i
              · have HD2 := Lib.hid (show inB (oxs xs) i sg (k + 1) = sg2 by rw [HDU.out, decide_eq_true hki]; simp)
                subst hki
                have hB := hB.drew
                refine region_seq (fun w' => Below U.heap.size U w') [(0, true), (1, true), (2, true), (3, true), (4, true), (5, true), (6, true), (7, true), (8, true), (9, true), (10, true), (11, true), (12, true), (13, true), (14, true), (15, true)] (by kernel_rfl) (by kernel_rfl) (fun _ _ _ _ h => h) hB ?_
                try generalize World.drew _ = wS at hB ⊢
                refine seq_take (v := ?_) (a' := ?_) (some 73) rfl rfl (by rfl) ?_ ?_ ?_
                rotate_left; rotate_left
                · intro w' hS; go_simp; with_reducible rfl
                · simp only [Act.put, List.setIfInBounds_toArray, List.set_cons_zero, List.set_cons_succ]; rfl
                refine seq_take (v := ?_) (a' := ?_) (some 74) rfl rfl (by rfl) ?_ ?_ ?_
                rotate_left; rotate_left
                · intro w' hS; go_simp; with_reducible rfl
                · simp only [Act.put, List.setIfInBounds_toArray, List.set_cons_zero, List.set_cons_succ]; rfl
                refine seq_take (v := ?_) (a' := ?_) (some 75) rfl rfl (by rfl) ?_ ?_ ?_
                rotate_left; rotate_left
                · intro w' hS; go_simp; with_reducible rfl
                · simp only [Act.put, List.setIfInBounds_toArray, List.set_cons_zero, List.set_cons_succ]; rfl
                refine seq_take (v := ?_) (a' := ?_) (some 76) rfl rfl (by rfl) ?_ ?_ ?_
                rotate_left; rotate_left
                · intro w' hS; go_simp; with_reducible rfl
                · simp only [Act.put, List.setIfInBounds_toArray, List.set_cons_zero, List.set_cons_succ]; rfl
                refine seq_skip (a' := ?_) (some 77) rfl rfl (by rfl) ?_ ?_
                rotate_left
                · simp only [Act.put, List.setIfInBounds_toArray, List.set_cons_zero, List.set_cons_succ]; rfl
                refine seq_skip (a' := ?_) (some 78) rfl rfl (by rfl) ?_ ?_
                rotate_left
                · simp only [Act.put, List.setIfInBounds_toArray, List.set_cons_zero, List.set_cons_succ]; rfl
                refine seq_skip (a' := ?_) (some 79) rfl rfl (by rfl) ?_ ?_
                rotate_left
                · simp only [Act.put, List.setIfInBounds_toArray, List.set_cons_zero, List.set_cons_succ]; rfl
                refine seq_skip (a' := ?_) (some 80) rfl rfl (by rfl) ?_ ?_
                rotate_left
                · simp only [Act.put, List.setIfInBounds_toArray, List.set_cons_zero, List.set_cons_succ]; rfl
                refine seq_skip (a' := ?_) (some 81) rfl rfl (by rfl) ?_ ?_
                rotate_left
                · simp only [Act.put, List.setIfInBounds_toArray, List.set_cons_zero, List.set_cons_succ]; rfl
                refine seq_skip (a' := ?_) (some 82) rfl rfl (by rfl) ?_ ?_
                rotate_left
                · simp only [Act.put, List.setIfInBounds_toArray, List.set_cons_zero, List.set_cons_succ]; rfl
                refine seq_skip (a' := ?_) (some 83) rfl rfl (by rfl) ?_ ?_
                rotate_left
                · simp only [Act.put, List.setIfInBounds_toArray, List.set_cons_zero, List.set_cons_succ]; rfl
                refine seq_skip (a' := ?_) (some 84) rfl rfl (by rfl) ?_ ?_
                rotate_left
                · simp only [Act.put, List.setIfInBounds_toArray, List.set_cons_zero, List.set_cons_succ]; rfl
                refine seq_skip (a' := ?_) (some 85) rfl rfl (by rfl) ?_ ?_
                rotate_left
                · simp only [Act.put, List.setIfInBounds_toArray, List.set_cons_zero, List.set_cons_succ]; rfl
                refine seq_skip (a' := ?_) (some 86) rfl rfl (by rfl) ?_ ?_
                rotate_left
                · simp only [Act.put, List.setIfInBounds_toArray, List.set_cons_zero, List.set_cons_succ]; rfl
                refine seq_skip (a' := ?_) (some 87) rfl rfl (by rfl) ?_ ?_
                rotate_left
                · simp only [Act.put, List.setIfInBounds_toArray, List.set_cons_zero, List.set_cons_succ]; rfl
                refine seq_take (v := ?_) (a' := ?_) (some 88) rfl rfl (by rfl) ?_ ?_ ?_
                rotate_left; rotate_left
                · intro w' hS; go_simp; with_reducible rfl
                · simp only [Act.put, List.setIfInBounds_toArray, List.set_cons_zero, List.set_cons_succ]; rfl
                refine seq_done ?_
                go_wp2_with fail
                go_roundw
                case rel => exact ⟨k + 1, sg2, u, v, by simp, by omega, rfl, rfl, rfl, by omega, by omega, Lib.hid ⟨HD2.out.symm, by rw [HC1'.out]; rfl, by rw [HC2'.out]; rfl⟩, Lib.hid (bl_next HBr.out hB)⟩
                case measure => simp [intOf]; omega
              · have hne : ¬ (k : Int) = i := by omega
                have hnb : ((k : Int) == i) = false := by (rw [beq_eq_false_iff_ne]; exact hne)
                have hnn : ((k : Int) != i) = true := by (rw [bne_iff_ne]; exact hne)
                have HKI := Lib.hid hki
                clear hki
                cases kq with
                | true =>
                  have HD2 := Lib.hid (show inB (oxs xs) i sg (k + 1) = false by rw [HDU.out, decide_eq_false HKI.out]; simp)
                  have hB := hB.drew
                  refine region_seq (fun w' => Below U.heap.size U w') [(0, true), (1, true), (2, true), (3, true), (4, true), (5, true), (6, true), (7, true), (8, true), (9, true), (10, true), (11, true), (12, true), (13, true), (14, true), (15, true)] (by kernel_rfl) (by kernel_rfl) (fun _ _ _ _ h => h) hB ?_
                  try generalize World.drew _ = wS at hB ⊢
                  refine seq_take (v := ?_) (a' := ?_) (some 73) rfl rfl (by rfl) ?_ ?_ ?_
                  rotate_left; rotate_left
                  · intro w' hS; go_simp; with_reducible rfl
                  · simp only [Act.put, List.setIfInBounds_toArray, List.set_cons_zero, List.set_cons_succ]; rfl
                  refine seq_take (v := ?_) (a' := ?_) (some 74) rfl rfl (by rfl) ?_ ?_ ?_
                  rotate_left; rotate_left
                  · intro w' hS; go_simp; with_reducible rfl
                  · simp only [Act.put, List.setIfInBounds_toArray, List.set_cons_zero, List.set_cons_succ]; rfl
                  refine seq_take (v := ?_) (a' := ?_) (some 75) rfl rfl (by rfl) ?_ ?_ ?_
                  rotate_left; rotate_left
                  · intro w' hS; (first | (go_simp; with_reducible rfl) | (go_simp; exact keyIf3 _ _ _ _ _ _ _ HKQ.out))
                  · simp only [Act.put, List.setIfInBounds_toArray, List.set_cons_zero, List.set_cons_succ]; rfl
                  refine seq_take (v := ?_) (a' := ?_) (some 76) rfl rfl (by rfl) ?_ ?_ ?_
                  rotate_left; rotate_left
                  · intro w' hS; go_simp; with_reducible rfl
                  · simp only [Act.put, List.setIfInBounds_toArray, List.set_cons_zero, List.set_cons_succ]; rfl
                  refine seq_take (v := ?_) (a' := ?_) (some 77) rfl rfl (by rfl) ?_ ?_ ?_
                  rotate_left; rotate_left
                  · intro w' hS; go_simp; with_reducible rfl
                  · simp only [Act.put, List.setIfInBounds_toArray, List.set_cons_zero, List.set_cons_succ]; rfl
                  refine seq_take (v := ?_) (a' := ?_) (some 78) rfl rfl (by rfl) ?_ ?_ ?_
                  rotate_left; rotate_left
                  · intro w' hS; go_simp; with_reducible rfl
                  · simp only [Act.put, List.setIfInBounds_toArray, List.set_cons_zero, List.set_cons_succ]; rfl
                  refine seq_take (v := ?_) (a' := ?_) (some 79) rfl rfl (by rfl) ?_ ?_ ?_
                  rotate_left; rotate_left
                  · intro w' hS; go_simp; with_reducible rfl
                  · simp only [Act.put, List.setIfInBounds_toArray, List.set_cons_zero, List.set_cons_succ]; rfl
                  refine seq_take (v := ?_) (a' := ?_) (some 80) rfl rfl (by rfl) ?_ ?_ ?_
                  rotate_left; rotate_left
                  · intro w' hS; go_simp; with_reducible rfl
                  · simp only [Act.put, List.setIfInBounds_toArray, List.set_cons_zero, List.set_cons_succ]; rfl
                  refine seq_take (v := ?_) (a' := ?_) (some 81) rfl rfl (by rfl) ?_ ?_ ?_
                  rotate_left; rotate_left
                  · intro w' hS; have p1 := QP.out.below hS; have p2 := QXU.out.below hS; have a0 := p1.c0; have a1 := p1.c1; have a2 := p1.c2; have a3 := p1.c3; have a4 := p1.c4; have a5 := p1.c5; have a6 := p1.c6; have a7 := p1.c7; have e0 := p2.c0; have e1 := p2.c1; have e2 := p2.c2; have e3 := p2.c3; have e4 := p2.c4; have e5 := p2.c5; have e6 := p2.c6; have e7 := p2.c7; simp only at a0 a1 a2 a3 a4 a5 a6 a7 e0 e1 e2 e3 e4 e5 e6 e7; go_simp; with_reducible rfl
                  · simp only [Act.put, List.setIfInBounds_toArray, List.set_cons_zero, List.set_cons_succ]; rfl
                  refine seq_take (v := ?_) (a' := ?_) (some 82) rfl rfl (by rfl) ?_ ?_ ?_
                  rotate_left; rotate_left
                  · intro w' hS; go_simp; with_reducible rfl
                  · simp only [Act.put, List.setIfInBounds_toArray, List.set_cons_zero, List.set_cons_succ]; rfl
                  refine seq_take (v := ?_) (a' := ?_) (some 83) rfl rfl (by rfl) ?_ ?_ ?_
                  rotate_left; rotate_left
                  · intro w' hS; go_simp; with_reducible rfl
                  · simp only [Act.put, List.setIfInBounds_toArray, List.set_cons_zero, List.set_cons_succ]; rfl
                  refine seq_take (v := ?_) (a' := ?_) (some 84) rfl rfl (by rfl) ?_ ?_ ?_
                  rotate_left; rotate_left
                  · intro w' hS; go_simp; with_reducible rfl
                  · simp only [Act.put, List.setIfInBounds_toArray, List.set_cons_zero, List.set_cons_succ]; rfl
                  refine seq_take (v := ?_) (a' := ?_) (some 85) rfl rfl (by rfl) ?_ ?_ ?_
                  rotate_left; rotate_left
                  · intro w' hS; go_simp; with_reducible rfl
                  · simp only [Act.put, List.setIfInBounds_toArray, List.set_cons_zero, List.set_cons_succ]; rfl
                  refine seq_take (v := ?_) (a' := ?_) (some 86) rfl rfl (by rfl) ?_ ?_ ?_
                  rotate_left; rotate_left
                  · intro w' hS; have p1 := QP.out.below hS; have p2 := QXU.out.below hS; have a0 := p1.c0; have a1 := p1.c1; have a2 := p1.c2; have a3 := p1.c3; have a4 := p1.c4; have a5 := p1.c5; have a6 := p1.c6; have a7 := p1.c7; have e0 := p2.c0; have e1 := p2.c1; have e2 := p2.c2; have e3 := p2.c3; have e4 := p2.c4; have e5 := p2.c5; have e6 := p2.c6; have e7 := p2.c7; simp only at a0 a1 a2 a3 a4 a5 a6 a7 e0 e1 e2 e3 e4 e5 e6 e7; go_simp; with_reducible rfl
                  · simp only [Act.put, List.setIfInBounds_toArray, List.set_cons_zero, List.set_cons_succ]; rfl
                  refine seq_take (v := ?_) (a' := ?_) (some 87) rfl rfl (by rfl) ?_ ?_ ?_
                  rotate_left; rotate_left
                  · intro w' hS; (first | (go_simp; with_reducible rfl) | (go_simp; exact keyIf3 _ _ _ _ _ _ _ HKQ.out))
                  · simp only [Act.put, List.setIfInBounds_toArray, List.set_cons_zero, List.set_cons_succ]; rfl
                  refine seq_take (v := ?_) (a' := ?_) (some 88) rfl rfl (by rfl) ?_ ?_ ?_
                  rotate_left; rotate_left
                  · intro w' hS; go_simp; with_reducible rfl
                  · simp only [Act.put, List.setIfInBounds_toArray, List.set_cons_zero, List.set_cons_succ]; rfl
                  refine seq_done ?_
                  go_wp2_with fail
                  go_roundw
                  case rel => exact ⟨k + 1, false, u, v, by simp, by omega, rfl, rfl, rfl, by omega, by omega, Lib.hid ⟨HD2.out.symm, by rw [HC1'.out]; rfl, by rw [HC2'.out]; rfl⟩, Lib.hid (bl_next HBr.out hB)⟩
                  case measure => simp [intOf]; omega
                | false =>
                  have HD2 := Lib.hid (show inB (oxs xs) i sg (k + 1) = sg2 by rw [HDU.out, decide_eq_false HKI.out]; simp)
                  have hB := hB.drew
                  refine region_seq (fun w' => Below U.heap.size U w') [(0, true), (1, true), (2, true), (3, true), (4, true), (5, true), (6, true), (7, true), (8, true), (9, true), (10, true), (11, true), (12, true), (13, true), (14, true), (15, true)] (by kernel_rfl) (by kernel_rfl) (fun _ _ _ _ h => h) hB ?_
                  try generalize World.drew _ = wS at hB ⊢
                  refine seq_take (v := ?_) (a' := ?_) (some 73) rfl rfl (by rfl) ?_ ?_ ?_
                  rotate_left; rotate_left
                  · intro w' hS; go_simp; with_reducible rfl
                  · simp only [Act.put, List.setIfInBounds_toArray, List.set_cons_zero, List.set_cons_succ]; rfl
                  refine seq_take (v := ?_) (a' := ?_) (some 74) rfl rfl (by rfl) ?_ ?_ ?_
                  rotate_left; rotate_left
                  · intro w' hS; go_simp; with_reducible rfl
                  · simp only [Act.put, List.setIfInBounds_toArray, List.set_cons_zero, List.set_cons_succ]; rfl
                  refine seq_take (v := ?_) (a' := ?_) (some 75) rfl rfl (by rfl) ?_ ?_ ?_
                  rotate_left; rotate_left
                  · intro w' hS; (first | (go_simp; with_reducible rfl) | (go_simp; exact keyIf3 _ _ _ _ _ _ _ HKQ.out))
                  · simp only [Act.put, List.setIfInBounds_toArray, List.set_cons_zero, List.set_cons_succ]; rfl
                  refine seq_take (v := ?_) (a' := ?_) (some 76) rfl rfl (by rfl) ?_ ?_ ?_
                  rotate_left; rotate_left
                  · intro w' hS; go_simp; with_reducible rfl
                  · simp only [Act.put, List.setIfInBounds_toArray, List.set_cons_zero, List.set_cons_succ]; rfl
                  refine seq_take (v := ?_) (a' := ?_) (some 77) rfl rfl (by rfl) ?_ ?_ ?_
                  rotate_left; rotate_left
                  · intro w' hS; go_simp; with_reducible rfl
                  · simp only [Act.put, List.setIfInBounds_toArray, List.set_cons_zero, List.set_cons_succ]; rfl
                  refine seq_take (v := ?_) (a' := ?_) (some 78) rfl rfl (by rfl) ?_ ?_ ?_
                  rotate_left; rotate_left
                  · intro w' hS; go_simp; with_reducible rfl
                  · simp only [Act.put, List.setIfInBounds_toArray, List.set_cons_zero, List.set_cons_succ]; rfl
                  refine seq_take (v := ?_) (a' := ?_) (some 79) rfl rfl (by rfl) ?_ ?_ ?_
                  rotate_left; rotate_left
                  · intro w' hS; go_simp; with_reducible rfl
                  · simp only [Act.put, List.setIfInBounds_toArray, List.set_cons_zero, List.set_cons_succ]; rfl
                  refine seq_take (v := ?_) (a' := ?_) (some 80) rfl rfl (by rfl) ?_ ?_ ?_
                  rotate_left; rotate_left
                  · intro w' hS; go_simp; with_reducible rfl
                  · simp only [Act.put, List.setIfInBounds_toArray, List.set_cons_zero, List.set_cons_succ]; rfl
                  refine seq_take (v := ?_) (a' := ?_) (some 81) rfl rfl (by rfl) ?_ ?_ ?_
                  rotate_left; rotate_left
                  · intro w' hS; have p1 := QP.out.below hS; have p2 := QXU.out.below hS; have a0 := p1.c0; have a1 := p1.c1; have a2 := p1.c2; have a3 := p1.c3; have a4 := p1.c4; have a5 := p1.c5; have a6 := p1.c6; have a7 := p1.c7; have e0 := p2.c0; have e1 := p2.c1; have e2 := p2.c2; have e3 := p2.c3; have e4 := p2.c4; have e5 := p2.c5; have e6 := p2.c6; have e7 := p2.c7; simp only at a0 a1 a2 a3 a4 a5 a6 a7 e0 e1 e2 e3 e4 e5 e6 e7; go_simp; with_reducible rfl
                  · simp only [Act.put, List.setIfInBounds_toArray, List.set_cons_zero, List.set_cons_succ]; rfl
                  refine seq_take (v := ?_) (a' := ?_) (some 82) rfl rfl (by rfl) ?_ ?_ ?_
                  rotate_left; rotate_left
                  · intro w' hS; go_simp; with_reducible rfl
                  · simp only [Act.put, List.setIfInBounds_toArray, List.set_cons_zero, List.set_cons_succ]; rfl
                  refine seq_take (v := ?_) (a' := ?_) (some 83) rfl rfl (by rfl) ?_ ?_ ?_
                  rotate_left; rotate_left
                  · intro w' hS; go_simp; with_reducible rfl
                  · simp only [Act.put, List.setIfInBounds_toArray, List.set_cons_zero, List.set_cons_succ]; rfl
                  refine seq_take (v := ?_) (a' := ?_) (some 84) rfl rfl (by rfl) ?_ ?_ ?_
                  rotate_left; rotate_left
                  · intro w' hS; go_simp; with_reducible rfl
                  · simp only [Act.put, List.setIfInBounds_toArray, List.set_cons_zero, List.set_cons_succ]; rfl
                  refine seq_take (v := ?_) (a' := ?_) (some 85) rfl rfl (by rfl) ?_ ?_ ?_
                  rotate_left; rotate_left
                  · intro w' hS; go_simp; with_reducible rfl
                  · simp only [Act.put, List.setIfInBounds_toArray, List.set_cons_zero, List.set_cons_succ]; rfl
                  refine seq_take (v := ?_) (a' := ?_) (some 86) rfl rfl (by rfl) ?_ ?_ ?_
                  rotate_left; rotate_left
                  · intro w' hS; have p1 := QP.out.below hS; have p2 := QXU.out.below hS; have a0 := p1.c0; have a1 := p1.c1; have a2 := p1.c2; have a3 := p1.c3; have a4 := p1.c4; have a5 := p1.c5; have a6 := p1.c6; have a7 := p1.c7; have e0 := p2.c0; have e1 := p2.c1; have e2 := p2.c2; have e3 := p2.c3; have e4 := p2.c4; have e5 := p2.c5; have e6 := p2.c6; have e7 := p2.c7; simp only at a0 a1 a2 a3 a4 a5 a6 a7 e0 e1 e2 e3 e4 e5 e6 e7; go_simp; with_reducible rfl
                  · simp only [Act.put, List.setIfInBounds_toArray, List.set_cons_zero, List.set_cons_succ]; rfl
                  refine seq_take (v := ?_) (a' := ?_) (some 87) rfl rfl (by rfl) ?_ ?_ ?_
                  rotate_left; rotate_left
                  · intro w' hS; (first | (go_simp; with_reducible rfl) | (go_simp; exact keyIf3 _ _ _ _ _ _ _ HKQ.out))
                  · simp only [Act.put, List.setIfInBounds_toArray, List.set_cons_zero, List.set_cons_succ]; rfl
                  refine seq_take (v := ?_) (a' := ?_) (some 88) rfl rfl (by rfl) ?_ ?_ ?_
                  rotate_left; rotate_left
                  · intro w' hS; go_simp; with_reducible rfl
                  · simp only [Act.put, List.setIfInBounds_toArray, List.set_cons_zero, List.set_cons_succ]; rfl
                  refine seq_done ?_
                  go_wp2_with fail
                  go_roundw
                  case rel => exact ⟨k + 1, sg2, u, v, by simp, by omega, rfl, rfl, rfl, by omega, by omega, Lib.hid ⟨HD2.out.symm, by rw [HC1'.out]; rfl, by rw [HC2'.out]; rfl⟩, Lib.hid (bl_next HBr.out hB)⟩
                  case measure => simp [intOf]; omega
            | true =>
              go_upto_region 23 with fail
              by_cases hki : k = i
              · have HD2 := Lib.hid (show inB (oxs xs) i sg (k + 1) = sg2 by rw [HDU.out, decide_eq_true hki]; simp)
                subst hki
                have hB := hB.drew
                refine region_seq (fun w' => Below U.heap.size U w') [(0, true), (1, true), (2, true), (3, true), (4, true), (5, true), (6, true), (7, true), (8, true), (9, true), (10, true), (11, true), (12, true), (13, true), (14, true), (15, true)] (by kernel_rfl) (by kernel_rfl) (fun _ _ _ _ h => h) hB ?_
                try generalize World.drew _ = wS at hB ⊢
                refine seq_take (v := ?_) (a' := ?_) (some 73) rfl rfl (by rfl) ?_ ?_ ?_
                rotate_left; rotate_left
                · intro w' hS; go_simp; with_reducible rfl
                · simp only [Act.put, List.setIfInBounds_toArray, List.set_cons_zero, List.set_cons_succ]; rfl
                refine seq_take (v := ?_) (a' := ?_) (some 74) rfl rfl (by rfl) ?_ ?_ ?_
                rotate_left; rotate_left
                · intro w' hS; go_simp; with_reducible rfl
                · simp only [Act.put, List.setIfInBounds_toArray, List.set_cons_zero, List.set_cons_succ]; rfl
                refine seq_take (v := ?_) (a' := ?_) (some 75) rfl rfl (by rfl) ?_ ?_ ?_
                rotate_left; rotate_left
                · intro w' hS; go_simp; with_reducible rfl
                · simp only [Act.put, List.setIfInBounds_toArray, List.set_cons_zero, List.set_cons_succ]; rfl
                refine seq_take (v := ?_) (a' := ?_) (some 76) rfl rfl (by rfl) ?_ ?_ ?_
                rotate_left; rotate_left
                · intro w' hS; go_simp; with_reducible rfl
                · simp only [Act.put, List.setIfInBounds_toArray, List.set_cons_zero, List.set_cons_succ]; rfl
                refine seq_skip (a' := ?_) (some 77) rfl rfl (by rfl) ?_ ?_
                rotate_left
                · simp only [Act.put, List.setIfInBounds_toArray, List.set_cons_zero, List.set_cons_succ]; rfl
                refine seq_skip (a' := ?_) (some 78) rfl rfl (by rfl) ?_ ?_
                rotate_left
                · simp only [Act.put, List.setIfInBounds_toArray, List.set_cons_zero, List.set_cons_succ]; rfl
                refine seq_skip (a' := ?_) (some 79) rfl rfl (by rfl) ?_ ?_
                rotate_left
                · simp only [Act.put, List.setIfInBounds_toArray, List.set_cons_zero, List.set_cons_succ]; rfl
                refine seq_skip (a' := ?_) (some 80) rfl rfl (by rfl) ?_ ?_
                rotate_left
                · simp only [Act.put, List.setIfInBounds_toArray, List.set_cons_zero, List.set_cons_succ]; rfl
                refine seq_skip (a' := ?_) (some 81) rfl rfl (by rfl) ?_ ?_
                rotate_left
                · simp only [Act.put, List.setIfInBounds_toArray, List.set_cons_zero, List.set_cons_succ]; rfl
                refine seq_skip (a' := ?_) (some 82) rfl rfl (by rfl) ?_ ?_
                rotate_left
                · simp only [Act.put, List.setIfInBounds_toArray, List.set_cons_zero, List.set_cons_succ]; rfl
                refine seq_skip (a' := ?_) (some 83) rfl rfl (by rfl) ?_ ?_
                rotate_left
                · simp only [Act.put, List.setIfInBounds_toArray, List.set_cons_zero, List.set_cons_succ]; rfl
                refine seq_skip (a' := ?_) (some 84) rfl rfl (by rfl) ?_ ?_
                rotate_left
                · simp only [Act.put, List.setIfInBounds_toArray, List.set_cons_zero, List.set_cons_succ]; rfl
                refine seq_skip (a' := ?_) (some 85) rfl rfl (by rfl) ?_ ?_
                rotate_left
                · simp only [Act.put, List.setIfInBounds_toArray, List.set_cons_zero, List.set_cons_succ]; rfl
                refine seq_skip (a' := ?_) (some 86) rfl rfl (by rfl) ?_ ?_
                rotate_left
                · simp only [Act.put, List.setIfInBounds_toArray, List.set_cons_zero, List.set_cons_succ]; rfl
                refine seq_skip (a' := ?_) (some 87) rfl rfl (by rfl) ?_ ?_
                rotate_left
                · simp only [Act.put, List.setIfInBounds_toArray, List.set_cons_zero, List.set_cons_succ]; rfl
                refine seq_take (v := ?_) (a' := ?_) (some 88) rfl rfl (by rfl) ?_ ?_ ?_
                rotate_left; rotate_left
                · intro w' hS; go_simp; with_reducible rfl
                · simp only [Act.put, List.setIfInBounds_toArray, List.set_cons_zero, List.set_cons_succ]; rfl
                refine seq_done ?_
                go_wp2_with fail
                go_roundw
                case rel => exact ⟨k + 1, sg2, u, v + 1, by simp, by omega, rfl, rfl, by simp, by omega, by omega, Lib.hid ⟨HD2.out.symm, by rw [HC1'.out]; rfl, by rw [HC2'.out]; rfl⟩, Lib.hid (bl_next HBr.out hB)⟩
                case measure => simp [intOf]; omega
              · have hne : ¬ (k : Int) = i := by omega
                have hnb : ((k : Int) == i) = false := by (rw [beq_eq_false_iff_ne]; exact hne)
                have hnn : ((k : Int) != i) = true := by (rw [bne_iff_ne]; exact hne)
                have HKI := Lib.hid hki
                clear hki
                cases kq with
                | true =>
                  have HD2 := Lib.hid (show inB (oxs xs) i sg (k + 1) = false by rw [HDU.out, decide_eq_false HKI.out]; simp)
                  have hB := hB.drew
                  refine region_seq (fun w' => Below U.heap.size U w') [(0, true), (1, true), (2, true), (3, true), (4, true), (5, true), (6, true), (7, true), (8, true), (9, true), (10, true), (11, true), (12, true), (13, true), (14, true), (15, true)] (by kernel_rfl) (by kernel_rfl) (fun _ _ _ _ h => h) hB ?_
                  try generalize World.drew _ = wS at hB ⊢
                  refine seq_take (v := ?_) (a' := ?_) (some 73) rfl rfl (by rfl) ?_ ?_ ?_
                  rotate_left; rotate_left
                  · intro w' hS; go_simp; with_reducible rfl
                  · simp only [Act.put, List.setIfInBounds_toArray, List.set_cons_zero, List.set_cons_succ]; rfl
                  refine seq_take (v := ?_) (a' := ?_) (some 74) rfl rfl (by rfl) ?_ ?_ ?_
                  rotate_left; rotate_left
                  · intro w' hS; go_simp; with_reducible rfl
                  · simp only [Act.put, List.setIfInBounds_toArray, List.set_cons_zero, List.set_cons_succ]; rfl
                  refine seq_take (v := ?_) (a' := ?_) (some 75) rfl rfl (by rfl) ?_ ?_ ?_
                  rotate_left; rotate_left
                  · intro w' hS; (first | (go_simp; with_reducible rfl) | (go_simp; exact keyIf3 _ _ _ _ _ _ _ HKQ.out))
                  · simp only [Act.put, List.setIfInBounds_toArray, List.set_cons_zero, List.set_cons_succ]; rfl
                  refine seq_take (v := ?_) (a' := ?_) (some 76) rfl rfl (by rfl) ?_ ?_ ?_
                  rotate_left; rotate_left
                  · intro w' hS; go_simp; with_reducible rfl
                  · simp only [Act.put, List.setIfInBounds_toArray, List.set_cons_zero, List.set_cons_succ]; rfl
                  refine seq_take (v := ?_) (a' := ?_) (some 77) rfl rfl (by rfl) ?_ ?_ ?_
                  rotate_left; rotate_left
                  · intro w' hS; go_simp; with_reducible rfl
                  · simp only [Act.put, List.setIfInBounds_toArray, List.set_cons_zero, List.set_cons_succ]; rfl
                  refine seq_take (v := ?_) (a' := ?_) (some 78) rfl rfl (by rfl) ?_ ?_ ?_
                  rotate_left; rotate_left
                  · intro w' hS; go_simp; with_reducible rfl
                  · simp only [Act.put, List.setIfInBounds_toArray, List.set_cons_zero, List.set_cons_succ]; rfl
                  refine seq_take (v := ?_) (a' := ?_) (some 79) rfl rfl (by rfl) ?_ ?_ ?_
                  rotate_left; rotate_left
                  · intro w' hS; go_simp; with_reducible rfl
                  · simp only [Act.put, List.setIfInBounds_toArray, List.set_cons_zero, List.set_cons_succ]; rfl
                  refine seq_take (v := ?_) (a' := ?_) (some 80) rfl rfl (by rfl) ?_ ?_ ?_
                  rotate_left; rotate_left
                  · intro w' hS; go_simp; with_reducible rfl
                  · simp only [Act.put, List.setIfInBounds_toArray, List.set_cons_zero, List.set_cons_succ]; rfl
                  refine seq_take (v := ?_) (a' := ?_) (some 81) rfl rfl (by rfl) ?_ ?_ ?_
                  rotate_left; rotate_left
                  · intro w' hS; have p1 := QP.out.below hS; have p2 := QXU.out.below hS; have a0 := p1.c0; have a1 := p1.c1; have a2 := p1.c2; have a3 := p1.c3; have a4 := p1.c4; have a5 := p1.c5; have a6 := p1.c6; have a7 := p1.c7; have e0 := p2.c0; have e1 := p2.c1; have e2 := p2.c2; have e3 := p2.c3; have e4 := p2.c4; have e5 := p2.c5; have e6 := p2.c6; have e7 := p2.c7; simp only at a0 a1 a2 a3 a4 a5 a6 a7 e0 e1 e2 e3 e4 e5 e6 e7; go_simp; with_reducible rfl
                  · simp only [Act.put, List.setIfInBounds_toArray, List.set_cons_zero, List.set_cons_succ]; rfl
                  refine seq_take (v := ?_) (a' := ?_) (some 82) rfl rfl (by rfl) ?_ ?_ ?_
                  rotate_left; rotate_left
                  · intro w' hS; go_simp; with_reducible rfl
                  · simp only [Act.put, List.setIfInBounds_toArray, List.set_cons_zero, List.set_cons_succ]; rfl
                  refine seq_take (v := ?_) (a' := ?_) (some 83) rfl rfl (by rfl) ?_ ?_ ?_
                  rotate_left; rotate_left
                  · intro w' hS; go_simp; with_reducible rfl
                  · simp only [Act.put, List.setIfInBounds_toArray, List.set_cons_zero, List.set_cons_succ]; rfl
                  refine seq_take (v := ?_) (a' := ?_) (some 84) rfl rfl (by rfl) ?_ ?_ ?_
                  rotate_left; rotate_left
                  · intro w' hS; go_simp; with_reducible rfl
                  · simp only [Act.put, List.setIfInBounds_toArray, List.set_cons_zero, List.set_cons_succ]; rfl
                  refine seq_take (v := ?_) (a' := ?_) (some 85) rfl rfl (by rfl) ?_ ?_ ?_
                  rotate_left; rotate_left
                  · intro w' hS; go_simp; with_reducible rfl
                  · simp only [Act.put, List.setIfInBounds_toArray, List.set_cons_zero, List.set_cons_succ]; rfl
                  refine seq_take (v := ?_) (a' := ?_) (some 86) rfl rfl (by rfl) ?_ ?_ ?_
                  rotate_left; rotate_left
                  · intro w' hS; have p1 := QP.out.below hS; have p2 := QXU.out.below hS; have a0 := p1.c0; have a1 := p1.c1; have a2 := p1.c2; have a3 := p1.c3; have a4 := p1.c4; have a5 := p1.c5; have a6 := p1.c6; have a7 := p1.c7; have e0 := p2.c0; have e1 := p2.c1; have e2 := p2.c2; have e3 := p2.c3; have e4 := p2.c4; have e5 := p2.c5; have e6 := p2.c6; have e7 := p2.c7; simp only at a0 a1 a2 a3 a4 a5 a6 a7 e0 e1 e2 e3 e4 e5 e6 e7; go_simp; with_reducible rfl
                  · simp only [Act.put, List.setIfInBounds_toArray, List.set_cons_zero, List.set_cons_succ]; rfl
                  refine seq_take (v := ?_) (a' := ?_) (some 87) rfl rfl (by rfl) ?_ ?_ ?_
                  rotate_left; rotate_left
                  · intro w' hS; (first | (go_simp; with_reducible rfl) | (go_simp; exact keyIf3 _ _ _ _ _ _ _ HKQ.out))
                  · simp only [Act.put, List.setIfInBounds_toArray, List.set_cons_zero, List.set_cons_succ]; rfl
                  refine seq_take (v := ?_) (a' := ?_) (some 88) rfl rfl (by rfl) ?_ ?_ ?_
                  rotate_left; rotate_left
                  · intro w' hS; go_simp; with_reducible rfl
                  · simp only [Act.put, List.setIfInBounds_toArray, List.set_cons_zero, List.set_cons_succ]; rfl
                  refine seq_done ?_
                  go_wp2_with fail
                  go_roundw
                  case rel => exact ⟨k + 1, false, u, v + 1, by simp, by omega, rfl, rfl, by simp, by omega, by omega, Lib.hid ⟨HD2.out.symm, by rw [HC1'.out]; rfl, by rw [HC2'.out]; rfl⟩, Lib.hid (bl_next HBr.out hB)⟩
                  case measure => simp [intOf]; omega
                | false =>
                  have HD2 := Lib.hid (show inB (oxs xs) i sg (k + 1) = sg2 by rw [HDU.out, decide_eq_false HKI.out]; simp)
                  have hB := hB.drew
                  refine region_seq (fun w' => Below U.heap.size U w') [(0, true), (1, true), (2, true), (3, true), (4, true), (5, true), (6, true), (7, true), (8, true), (9, true), (10, true), (11, true), (12, true), (13, true), (14, true), (15, true)] (by kernel_rfl) (by kernel_rfl) (fun _ _ _ _ h => h) hB ?_
                  try generalize World.drew _ = wS at hB ⊢
                  refine seq_take (v := ?_) (a' := ?_) (some 73) rfl rfl (by rfl) ?_ ?_ ?_
                  rotate_left; rotate_left
                  · intro w' hS; go_simp; with_reducible rfl
                  · simp only [Act.put, List.setIfInBounds_toArray, List.set_cons_zero, List.set_cons_succ]; rfl
                  refine seq_take (v := ?_) (a' := ?_) (some 74) rfl rfl (by rfl) ?_ ?_ ?_
                  rotate_left; rotate_left
                  · intro w' hS; go_simp; with_reducible rfl
                  · simp only [Act.put, List.setIfInBounds_toArray, List.set_cons_zero, List.set_cons_succ]; rfl
                  refine seq_take (v := ?_) (a' := ?_) (some 75) rfl rfl (by rfl) ?_ ?_ ?_
                  rotate_left; rotate_left
                  · intro w' hS; (first | (go_simp; with_reducible rfl) | (go_simp; exact keyIf3 _ _ _ _ _ _ _ HKQ.out))
                  · simp only [Act.put, List.setIfInBounds_toArray, List.set_cons_zero, List.set_cons_succ]; rfl
                  refine seq_take (v := ?_) (a' := ?_) (some 76) rfl rfl (by rfl) ?_ ?_ ?_
                  rotate_left; rotate_left
                  · intro w' hS; go_simp; with_reducible rfl
                  · simp only [Act.put, List.setIfInBounds_toArray, List.set_cons_zero, List.set_cons_succ]; rfl
                  refine seq_take (v := ?_) (a' := ?_) (some 77) rfl rfl (by rfl) ?_ ?_ ?_
                  rotate_left; rotate_left
                  · intro w' hS; go_simp; with_reducible rfl
                  · simp only [Act.put, List.setIfInBounds_toArray, List.set_cons_zero, List.set_cons_succ]; rfl
                  refine seq_take (v := ?_) (a' := ?_) (some 78) rfl rfl (by rfl) ?_ ?_ ?_
                  rotate_left; rotate_left
                  · intro w' hS; go_simp; with_reducible rfl
                  · simp only [Act.put, List.setIfInBounds_toArray, List.set_cons_zero, List.set_cons_succ]; rfl
                  refine seq_take (v := ?_) (a' := ?_) (some 79) rfl rfl (by rfl) ?_ ?_ ?_
                  rotate_left; rotate_left
                  · intro w' hS; go_simp; with_reducible rfl
                  · simp only [Act.put, List.setIfInBounds_toArray, List.set_cons_zero, List.set_cons_succ]; rfl
                  refine seq_take (v := ?_) (a' := ?_) (some 80) rfl rfl (by rfl) ?_ ?_ ?_
                  rotate_left; rotate_left
                  · intro w' hS; go_simp; with_reducible rfl
                  · simp only [Act.put, List.setIfInBounds_toArray, List.set_cons_zero, List.set_cons_succ]; rfl
                  refine seq_take (v := ?_) (a' := ?_) (some 81) rfl rfl (by rfl) ?_ ?_ ?_
                  rotate_left; rotate_left
                  · intro w' hS; have p1 := QP.out.below hS; have p2 := QXU.out.below hS; have a0 := p1.c0; have a1 := p1.c1; have a2 := p1.c2; have a3 := p1.c3; have a4 := p1.c4; have a5 := p1.c5; have a6 := p1.c6; have a7 := p1.c7; have e0 := p2.c0; have e1 := p2.c1; have e2 := p2.c2; have e3 := p2.c3; have e4 := p2.c4; have e5 := p2.c5; have e6 := p2.c6; have e7 := p2.c7; simp only at a0 a1 a2 a3 a4 a5 a6 a7 e0 e1 e2 e3 e4 e5 e6 e7; go_simp; with_reducible rfl
                  · simp only [Act.put, List.setIfInBounds_toArray, List.set_cons_zero, List.set_cons_succ]; rfl
                  refine seq_take (v := ?_) (a' := ?_) (some 82) rfl rfl (by rfl) ?_ ?_ ?_
                  rotate_left; rotate_left
                  · intro w' hS; go_simp; with_reducible rfl
                  · simp only [Act.put, List.setIfInBounds_toArray, List.set_cons_zero, List.set_cons_succ]; rfl
                  refine seq_take (v := ?_) (a' := ?_) (some 83) rfl rfl (by rfl) ?_ ?_ ?_
                  rotate_left; rotate_left
                  · intro w' hS; go_simp; with_reducible rfl
                  · simp only [Act.put, List.setIfInBounds_toArray, List.set_cons_zero, List.set_cons_succ]; rfl
                  refine seq_take (v := ?_) (a' := ?_) (some 84) rfl rfl (by rfl) ?_ ?_ ?_
                  rotate_left; rotate_left
                  · intro w' hS; go_simp; with_reducible rfl
                  · simp only [Act.put, List.setIfInBounds_toArray, List.set_cons_zero, List.set_cons_succ]; rfl
                  refine seq_take (v := ?_) (a' := ?_) (some 85) rfl rfl (by rfl) ?_ ?_ ?_
                  rotate_left; rotate_left
                  · intro w' hS; go_simp; with_reducible rfl
                  · simp only [Act.put, List.setIfInBounds_toArray, List.set_cons_zero, List.set_cons_succ]; rfl
                  refine seq_take (v := ?_) (a' := ?_) (some 86) rfl rfl (by rfl) ?_ ?_ ?_
                  rotate_left; rotate_left
                  · intro w' hS; have p1 := QP.out.below hS; have p2 := QXU.out.below hS; have a0 := p1.c0; have a1 := p1.c1; have a2 := p1.c2; have a3 := p1.c3; have a4 := p1.c4; have a5 := p1.c5; have a6 := p1.c6; have a7 := p1.c7; have e0 := p2.c0; have e1 := p2.c1; have e2 := p2.c2; have e3 := p2.c3; have e4 := p2.c4; have e5 := p2.c5; have e6 := p2.c6; have e7 := p2.c7; simp only at a0 a1 a2 a3 a4 a5 a6 a7 e0 e1 e2 e3 e4 e5 e6 e7; go_simp; with_reducible rfl
                  · simp only [Act.put, List.setIfInBounds_toArray, List.set_cons_zero, List.set_cons_succ]; rfl
                  refine seq_take (v := ?_) (a' := ?_) (some 87) rfl rfl (by rfl) ?_ ?_ ?_
                  rotate_left; rotate_left
                  · intro w' hS; (first | (go_simp; with_reducible rfl) | (go_simp; exact keyIf3 _ _ _ _ _ _ _ HKQ.out))
                  · simp only [Act.put, List.setIfInBounds_toArray, List.set_cons_zero, List.set_cons_succ]; rfl
                  refine seq_take (v := ?_) (a' := ?_) (some 88) rfl rfl (by rfl) ?_ ?_ ?_
                  rotate_left; rotate_left
                  · intro w' hS; go_simp; with_reducible rfl
                  · simp only [Act.put, List.setIfInBounds_toArray, List.set_cons_zero, List.set_cons_succ]; rfl
                  refine seq_done ?_
                  go_wp2_with fail
                  go_roundw
                  case rel => exact ⟨k + 1, sg2, u, v + 1, by simp, by omega, rfl, rfl, by simp, by omega, by omega, Lib.hid ⟨HD2.out.symm, by rw [HC1'.out]; rfl, by rw [HC2'.out]; rfl⟩, Lib.hid (bl_next HBr.out hB)⟩
                  case measure => simp [intOf]; omega
          | true =>
            cases t2 with
            | false =>
              go_upto_region 23 with fail
              by_cases hki : k = i
              · have HD2 := Lib.hid (show inB (oxs xs) i sg (k + 1) = sg2 by rw [HDU.out, decide_eq_true hki]; simp)
                subst hki
                have hB := hB.drew
                refine region_seq (fun w' => Below U.heap.size U w') [(0, true), (1, true), (2, true), (3, true), (4, true), (5, true), (6, true), (7, true), (8, true), (9, true), (10, true), (11, true), (12, true), (13, true), (14, true), (15, true)] (by kernel_rfl) (by kernel_rfl) (fun _ _ _ _ h => h) hB ?_
                try generalize World.drew _ = wS at hB ⊢
                refine seq_take (v := ?_) (a' := ?_) (some 73) rfl rfl (by rfl) ?_ ?_ ?_
                rotate_left; rotate_left
                · intro w' hS; go_simp; with_reducible rfl
                · simp only [Act.put, List.setIfInBounds_toArray, List.set_cons_zero, List.set_cons_succ]; rfl
                refine seq_take (v := ?_) (a' := ?_) (some 74) rfl rfl (by rfl) ?_ ?_ ?_
                rotate_left; rotate_left
                · intro w' hS; go_simp; with_reducible rfl
                · simp only [Act.put, List.setIfInBounds_toArray, List.set_cons_zero, List.set_cons_succ]; rfl
                refine seq_take (v := ?_) (a' := ?_) (some 75) rfl rfl (by rfl) ?_ ?_ ?_
                rotate_left; rotate_left
                · intro w' hS; go_simp; with_reducible rfl
                · simp only [Act.put, List.setIfInBounds_toArray, List.set_cons_zero, List.set_cons_succ]; rfl
                refine seq_take (v := ?_) (a' := ?_) (some 76) rfl rfl (by rfl) ?_ ?_ ?_
                rotate_left; rotate_left
                · intro w' hS; go_simp; with_reducible rfl
                · simp only [Act.put, List.setIfInBounds_toArray, List.set_cons_zero, List.set_cons_succ]; rfl
                refine seq_skip (a' := ?_) (some 77) rfl rfl (by rfl) ?_ ?_
                rotate_left
                · simp only [Act.put, List.setIfInBounds_toArray, List.set_cons_zero, List.set_cons_succ]; rfl
                refine seq_skip (a' := ?_) (some 78) rfl rfl (by rfl) ?_ ?_
                rotate_left
                · simp only [Act.put, List.setIfInBounds_toArray, List.set_cons_zero, List.set_cons_succ]; rfl
                refine seq_skip (a' := ?_) (some 79) rfl rfl (by rfl) ?_ ?_
                rotate_left
                · simp only [Act.put, List.setIfInBounds_toArray, List.set_cons_zero, List.set_cons_succ]; rfl
                refine seq_skip (a' := ?_) (some 80) rfl rfl (by rfl) ?_ ?_
                rotate_left
                · simp only [Act.put, List.setIfInBounds_toArray, List.set_cons_zero, List.set_cons_succ]; rfl
                refine seq_skip (a' := ?_) (some 81) rfl rfl (by rfl) ?_ ?_
                rotate_left
                · simp only [Act.put, List.setIfInBounds_toArray, List.set_cons_zero, List.set_cons_succ]; rfl
                refine seq_skip (a' := ?_) (some 82) rfl rfl (by rfl) ?_ ?_
                rotate_left
                · simp only [Act.put, List.setIfInBounds_toArray, List.set_cons_zero, List.set_cons_succ]; rfl
                refine seq_skip (a' := ?_) (some 83) rfl rfl (by rfl) ?_ ?_
                rotate_left
                · simp only [Act.put, List.setIfInBounds_toArray, List.set_cons_zero, List.set_cons_succ]; rfl
                refine seq_skip (a' := ?_) (some 84) rfl rfl (by rfl) ?_ ?_
                rotate_left
                · simp only [Act.put, List.setIfInBounds_toArray, List.set_cons_zero, List.set_cons_succ]; rfl
                refine seq_skip (a' := ?_) (some 85) rfl rfl (by rfl) ?_ ?_
                rotate_left
                · simp only [Act.put, List.setIfInBounds_toArray, List.set_cons_zero, List.set_cons_succ]; rfl
                refine seq_skip (a' := ?_) (some 86) rfl rfl (by rfl) ?_ ?_
                rotate_left
                · simp only [Act.put, List.setIfInBounds_toArray, List.set_cons_zero, List.set_cons_succ]; rfl
                refine seq_skip (a' := ?_) (some 87) rfl rfl (by rfl) ?_ ?_
                rotate_left
                · simp only [Act.put, List.setIfInBounds_toArray, List.set_cons_zero, List.set_cons_succ]; rfl
                refine seq_take (v := ?_) (a' := ?_) (some 88) rfl rfl (by rfl) ?_ ?_ ?_
                rotate_left; rotate_left
                · intro w' hS; go_simp; with_reducible rfl
                · simp only [Act.put, List.setIfInBounds_toArray, List.set_cons_zero, List.set_cons_succ]; rfl
                refine seq_done ?_
                go_wp2_with fail
                go_roundw
                case rel => exact ⟨k + 1, sg2, u + 1, v, by simp, by omega, rfl, by simp, rfl, by omega, by omega, Lib.hid ⟨HD2.out.symm, by rw [HC1'.out]; rfl, by rw [HC2'.out]; rfl⟩, Lib.hid (bl_next HBr.out hB)⟩
                case measure => simp [intOf]; omega
              · have hne : ¬ (k : Int) = i := by omega
                have hnb : ((k : Int) == i) = false := by (rw [beq_eq_false_iff_ne]; exact hne)
                have hnn : ((k : Int) != i) = true := by (rw [bne_iff_ne]; exact hne)
                have HKI := Lib.hid hki
                clear hki
                cases kq with
                | true =>
                  have HD2 := Lib.hid (show inB (oxs xs) i sg (k + 1) = false by rw [HDU.out, decide_eq_false HKI.out]; simp)
                  have hB := hB.drew
                  refine region_seq (fun w' => Below U.heap.size U w') [(0, true), (1, true), (2, true), (3, true), (4, true), (5, true), (6, true), (7, true), (8, true), (9, true), (10, true), (11, true), (12, true), (13, true), (14, true), (15, true)] (by kernel_rfl) (by kernel_rfl) (fun _ _ _ _ h => h) hB ?_
                  try generalize World.drew _ = wS at hB ⊢
                  refine seq_take (v := ?_) (a' := ?_) (some 73) rfl rfl (by rfl) ?_ ?_ ?_
                  rotate_left; rotate_left
                  · intro w' hS; go_simp; with_reducible rfl
                  · simp only [Act.put, List.setIfInBounds_toArray, List.set_cons_zero, List.set_cons_succ]; rfl
                  refine seq_take (v := ?_) (a' := ?_) (some 74) rfl rfl (by rfl) ?_ ?_ ?_
                  rotate_left; rotate_left
                  · intro w' hS; go_simp; with_reducible rfl
                  · simp only [Act.put, List.setIfInBounds_toArray, List.set_cons_zero, List.set_cons_succ]; rfl
                  refine seq_take (v := ?_) (a' := ?_) (some 75) rfl rfl (by rfl) ?_ ?_ ?_
                  rotate_left; rotate_left
                  · intro w' hS; (first | (go_simp; with_reducible rfl) | (go_simp; exact keyIf3 _ _ _ _ _ _ _ HKQ.out))
                  · simp only [Act.put, List.setIfInBounds_toArray, List.set_cons_zero, List.set_cons_succ]; rfl
                  refine seq_take (v := ?_) (a' := ?_) (some 76) rfl rfl (by rfl) ?_ ?_ ?_
                  rotate_left; rotate_left
                  · intro w' hS; go_simp; with_reducible rfl
                  · simp only [Act.put, List.setIfInBounds_toArray, List.set_cons_zero, List.set_cons_succ]; rfl
                  refine seq_take (v := ?_) (a' := ?_) (some 77) rfl rfl (by rfl) ?_ ?_ ?_
                  rotate_left; rotate_left
                  · intro w' hS; go_simp; with_reducible rfl
                  · simp only [Act.put, List.setIfInBounds_toArray, List.set_cons_zero, List.set_cons_succ]; rfl
                  refine seq_take (v := ?_) (a' := ?_) (some 78) rfl rfl (by rfl) ?_ ?_ ?_
                  rotate_left; rotate_left
                  · intro w' hS; go_simp; with_reducible rfl
                  · simp only [Act.put, List.setIfInBounds_toArray, List.set_cons_zero, List.set_cons_succ]; rfl
                  refine seq_take (v := ?_) (a' := ?_) (some 79) rfl rfl (by rfl) ?_ ?_ ?_
                  rotate_left; rotate_left
                  · intro w' hS; go_simp; with_reducible rfl
                  · simp only [Act.put, List.setIfInBounds_toArray, List.set_cons_zero, List.set_cons_succ]; rfl
                  refine seq_take (v := ?_) (a' := ?_) (some 80) rfl rfl (by rfl) ?_ ?_ ?_
                  rotate_left; rotate_left
                  · intro w' hS; go_simp; with_reducible rfl
                  · simp only [Act.put, List.setIfInBounds_toArray, List.set_cons_zero, List.set_cons_succ]; rfl
                  refine seq_take (v := ?_) (a' := ?_) (some 81) rfl rfl (by rfl) ?_ ?_ ?_
                  rotate_left; rotate_left
                  · intro w' hS; have p1 := QP.out.below hS; have p2 := QXU.out.below hS; have a0 := p1.c0; have a1 := p1.c1; have a2 := p1.c2; have a3 := p1.c3; have a4 := p1.c4; have a5 := p1.c5; have a6 := p1.c6; have a7 := p1.c7; have e0 := p2.c0; have e1 := p2.c1; have e2 := p2.c2; have e3 := p2.c3; have e4 := p2.c4; have e5 := p2.c5; have e6 := p2.c6; have e7 := p2.c7; simp only at a0 a1 a2 a3 a4 a5 a6 a7 e0 e1 e2 e3 e4 e5 e6 e7; go_simp; with_reducible rfl
                  · simp only [Act.put, List.setIfInBounds_toArray, List.set_cons_zero, List.set_cons_succ]; rfl
                  refine seq_take (v := ?_) (a' := ?_) (some 82) rfl rfl (by rfl) ?_ ?_ ?_
                  rotate_left; rotate_left
                  · intro w' hS; go_simp; with_reducible rfl
                  · simp only [Act.put, List.setIfInBounds_toArray, List.set_cons_zero, List.set_cons_succ]; rfl
                  refine seq_take (v := ?_) (a' := ?_) (some 83) rfl rfl (by rfl) ?_ ?_ ?_
                  rotate_left; rotate_left
                  · intro w' hS; go_simp; with_reducible rfl
                  · simp only [Act.put, List.setIfInBounds_toArray, List.set_cons_zero, List.set_cons_succ]; rfl
                  refine seq_take (v := ?_) (a' := ?_) (some 84) rfl rfl (by rfl) ?_ ?_ ?_
                  rotate_left; rotate_left
                  · intro w' hS; go_simp; with_reducible rfl
                  · simp only [Act.put, List.setIfInBounds_toArray, List.set_cons_zero, List.set_cons_succ]; rfl
                  refine seq_take (v := ?_) (a' := ?_) (some 85) rfl rfl (by rfl) ?_ ?_ ?_
                  rotate_left; rotate_left
                  · intro w' hS; go_simp; with_reducible rfl
                  · simp only [Act.put, List.setIfInBounds_toArray, List.set_cons_zero, List.set_cons_succ]; rfl
                  refine seq_take (v := ?_) (a' := ?_) (some 86) rfl rfl (by rfl) ?_ ?_ ?_
                  rotate_left; rotate_left
                  · intro w' hS; have p1 := QP.out.below hS; have p2 := QXU.out.below hS; have a0 := p1.c0; have a1 := p1.c1; have a2 := p1.c2; have a3 := p1.c3; have a4 := p1.c4; have a5 := p1.c5; have a6 := p1.c6; have a7 := p1.c7; have e0 := p2.c0; have e1 := p2.c1; have e2 := p2.c2; have e3 := p2.c3; have e4 := p2.c4; have e5 := p2.c5; have e6 := p2.c6; have e7 := p2.c7; simp only at a0 a1 a2 a3 a4 a5 a6 a7 e0 e1 e2 e3 e4 e5 e6 e7; go_simp; with_reducible rfl
                  · simp only [Act.put, List.setIfInBounds_toArray, List.set_cons_zero, List.set_cons_succ]; rfl
                  refine seq_take (v := ?_) (a' := ?_) (some 87) rfl rfl (by rfl) ?_ ?_ ?_
                  rotate_left; rotate_left
                  · intro w' hS; (first | (go_simp; with_reducible rfl) | (go_simp; exact keyIf3 _ _ _ _ _ _ _ HKQ.out))
                  · simp only [Act.put, List.setIfInBounds_toArray, List.set_cons_zero, List.set_cons_succ]; rfl
                  refine seq_take (v := ?_) (a' := ?_) (some 88) rfl rfl (by rfl) ?_ ?_ ?_
                  rotate_left; rotate_left
                  · intro w' hS; go_simp; with_reducible rfl
                  · simp only [Act.put, List.setIfInBounds_toArray, List.set_cons_zero, List.set_cons_succ]; rfl
                  refine seq_done ?_
                  go_wp2_with fail
                  go_roundw
                  case rel => exact ⟨k + 1, false, u + 1, v, by simp, by omega, rfl, by simp, rfl, by omega, by omega, Lib.hid ⟨HD2.out.symm, by rw [HC1'.out]; rfl, by rw [HC2'.out]; rfl⟩, Lib.hid (bl_next HBr.out hB)⟩
                  case measure => simp [intOf]; omega
                | false =>
                  have HD2 := Lib.hid (show inB (oxs xs) i sg (k + 1) = sg2 by rw [HDU.out, decide_eq_false HKI.out]; simp)
                  have hB := hB.drew
                  refine region_seq (fun w' => Below U.heap.size U w') [(0, true), (1, true), (2, true), (3, true), (4, true), (5, true), (6, true), (7, true), (8, true), (9, true), (10, true), (11, true), (12, true), (13, true), (14, true), (15, true)] (by kernel_rfl) (by kernel_rfl) (fun _ _ _ _ h => h) hB ?_
                  try generalize World.drew _ = wS at hB ⊢
                  refine seq_take (v := ?_) (a' := ?_) (some 73) rfl rfl (by rfl) ?_ ?_ ?_
                  rotate_left; rotate_left
                  · intro w' hS; go_simp; with_reducible rfl
                  · simp only [Act.put, List.setIfInBounds_toArray, List.set_cons_zero, List.set_cons_succ]; rfl
                  refine seq_take (v := ?_) (a' := ?_) (some 74) rfl rfl (by rfl) ?_ ?_ ?_
                  rotate_left; rotate_left
                  · intro w' hS; go_simp; with_reducible rfl
                  · simp only [Act.put, List.setIfInBounds_toArray, List.set_cons_zero, List.set_cons_succ]; rfl
                  refine seq_take (v := ?_) (a' := ?_) (some 75) rfl rfl (by rfl) ?_ ?_ ?_
                  rotate_left; rotate_left
                  · intro w' hS; (first | (go_simp; with_reducible rfl) | (go_simp; exact keyIf3 _ _ _ _ _ _ _ HKQ.out))
                  · simp only [Act.put, List.setIfInBounds_toArray, List.set_cons_zero, List.set_cons_succ]; rfl
                  refine seq_take (v := ?_) (a' := ?_) (some 76) rfl rfl (by rfl) ?_ ?_ ?_
                  rotate_left; rotate_left
                  · intro w' hS; go_simp; with_reducible rfl
                  · simp only [Act.put, List.setIfInBounds_toArray, List.set_cons_zero, List.set_cons_succ]; rfl
                  refine seq_take (v := ?_) (a' := ?_) (some 77) rfl rfl (by rfl) ?_ ?_ ?_
                  rotate_left; rotate_left
                  · intro w' hS; go_simp; with_reducible rfl
                  · simp only [Act.put, List.setIfInBounds_toArray, List.set_cons_zero, List.set_cons_succ]; rfl
                  refine seq_take (v := ?_) (a' := ?_) (some 78) rfl rfl (by rfl) ?_ ?_ ?_
                  rotate_left; rotate_left
                  · intro w' hS; go_simp; with_reducible rfl
                  · simp only [Act.put, List.setIfInBounds_toArray, List.set_cons_zero, List.set_cons_succ]; rfl
                  refine seq_take (v := ?_) (a' := ?_) (some 79) rfl rfl (by rfl) ?_ ?_ ?_
                  rotate_left; rotate_left
                  · intro w' hS; go_simp; with_reducible rfl
                  · simp only [Act.put, List.setIfInBounds_toArray, List.set_cons_zero, List.set_cons_succ]; rfl
                  refine seq_take (v := ?_) (a' := ?_) (some 80) rfl rfl (by rfl) ?_ ?_ ?_
                  rotate_left; rotate_left
                  · intro w' hS; go_simp; with_reducible rfl
                  · simp only [Act.put, List.setIfInBounds_toArray, List.set_cons_zero, List.set_cons_succ]; rfl
                  refine seq_take (v := ?_) (a' := ?_) (some 81) rfl rfl (by rfl) ?_ ?_ ?_
                  rotate_left; rotate_left
                  · intro w' hS; have p1 := QP.out.below hS; have p2 := QXU.out.below hS; have a0 := p1.c0; have a1 := p1.c1; have a2 := p1.c2; have a3 := p1.c3; have a4 := p1.c4; have a5 := p1.c5; have a6 := p1.c6; have a7 := p1.c7; have e0 := p2.c0; have e1 := p2.c1; have e2 := p2.c2; have e3 := p2.c3; have e4 := p2.c4; have e5 := p2.c5; have e6 := p2.c6; have e7 := p2.c7; simp only at a0 a1 a2 a3 a4 a5 a6 a7 e0 e1 e2 e3 e4 e5 e6 e7; go_simp; with_reducible rfl
                  · simp only [Act.put, List.setIfInBounds_toArray, List.set_cons_zero, List.set_cons_succ]; rfl
                  refine seq_take (v := ?_) (a' := ?_) (some 82) rfl rfl (by rfl) ?_ ?_ ?_
                  rotate_left; rotate_left
                  · intro w' hS; go_simp; with_reducible rfl
                  · simp only [Act.put, List.setIfInBounds_toArray, List.set_cons_zero, List.set_cons_succ]; rfl
                  refine seq_take (v := ?_) (a' := ?_) (some 83) rfl rfl (by rfl) ?_ ?_ ?_
                  rotate_left; rotate_left
                  · intro w' hS; go_simp; with_reducible rfl
                  · simp only [Act.put, List.setIfInBounds_toArray, List.set_cons_zero, List.set_cons_succ]; rfl
                  refine seq_take (v := ?_) (a' := ?_) (some 84) rfl rfl (by rfl) ?_ ?_ ?_
                  rotate_left; rotate_left
                  · intro w' hS; go_simp; with_reducible rfl
                  · simp only [Act.put, List.setIfInBounds_toArray, List.set_cons_zero, List.set_cons_succ]; rfl
                  refine seq_take (v := ?_) (a' := ?_) (some 85) rfl rfl (by rfl) ?_ ?_ ?_
                  rotate_left; rotate_left
                  · intro w' hS; go_simp; with_reducible rfl
                  · simp only [Act.put, List.setIfInBounds_toArray, List.set_cons_zero, List.set_cons_succ]; rfl
                  refine seq_take (v := ?_) (a' := ?_) (some 86) rfl rfl (by rfl) ?_ ?_ ?_
                  rotate_left; rotate_left
                  · intro w' hS; have p1 := QP.out.below hS; have p2 := QXU.out.below hS; have a0 := p1.c0; have a1 := p1.c1; have a2 := p1.c2; have a3 := p1.c3; have a4 := p1.c4; have a5 := p1.c5; have a6 := p1.c6; have a7 := p1.c7; have e0 := p2.c0; have e1 := p2.c1; have e2 := p2.c2; have e3 := p2.c3; have e4 := p2.c4; have e5 := p2.c5; have e6 := p2.c6; have e7 := p2.c7; simp only at a0 a1 a2 a3 a4 a5 a6 a7 e0 e1 e2 e3 e4 e5 e6 e7; go_simp; with_reducible rfl
                  · simp only [Act.put, List.setIfInBounds_toArray, List.set_cons_zero, List.set_cons_succ]; rfl
                  refine seq_take (v := ?_) (a' := ?_) (some 87) rfl rfl (by rfl) ?_ ?_ ?_
                  rotate_left; rotate_left
                  · intro w' hS; (first | (go_simp; with_reducible rfl) | (go_simp; exact keyIf3 _ _ _ _ _ _ _ HKQ.out))
                  · simp only [Act.put, List.setIfInBounds_toArray, List.set_cons_zero, List.set_cons_succ]; rfl
                  refine seq_take (v := ?_) (a' := ?_) (some 88) rfl rfl (by rfl) ?_ ?_ ?_
                  rotate_left; rotate_left
                  · intro w' hS; go_simp; with_reducible rfl
                  · simp only [Act.put, List.setIfInBounds_toArray, List.set_cons_zero, List.set_cons_succ]; rfl
                  refine seq_done ?_
                  go_wp2_with fail
                  go_roundw
                  case rel => exact ⟨k + 1, sg2, u + 1, v, by simp, by omega, rfl, by simp, rfl, by omega, by omega, Lib.hid ⟨HD2.out.symm, by rw [HC1'.out]; rfl, by rw [HC2'.out]; rfl⟩, Lib.hid (bl_next HBr.out hB)⟩
                  case measure => simp [intOf]; omega
            | true =>
              go_upto_region 23 with fail
              by_cases hki : k = i
              · have HD2 := Lib.hid (show inB (oxs xs) i sg (k + 1) = sg2 by rw [HDU.out, decide_eq_true hki]; simp)
                subst hki
                have hB := hB.drew
                refine region_seq (fun w' => Below U.heap.size U w') [(0, true), (1, true), (2, true), (3, true), (4, true), (5, true), (6, true), (7, true), (8, true), (9, true), (10, true), (11, true), (12, true), (13, true), (14, true), (15, true)] (by kernel_rfl) (by kernel_rfl) (fun _ _ _ _ h => h) hB ?_
                try generalize World.drew _ = wS at hB ⊢
                refine seq_take (v := ?_) (a' := ?_) (some 73) rfl rfl (by rfl) ?_ ?_ ?_
                rotate_left; rotate_left
                · intro w' hS; go_simp; with_reducible rfl
                · simp only [Act.put, List.setIfInBounds_toArray, List.set_cons_zero, List.set_cons_succ]; rfl
                refine seq_take (v := ?_) (a' := ?_) (some 74) rfl rfl (by rfl) ?_ ?_ ?_
                rotate_left; rotate_left
                · intro w' hS; go_simp; with_reducible rfl
                · simp only [Act.put, List.setIfInBounds_toArray, List.set_cons_zero, List.set_cons_succ]; rfl
                refine seq_take (v := ?_) (a' := ?_) (some 75) rfl rfl (by rfl) ?_ ?_ ?_
                rotate_left; rotate_left
                · intro w' hS; go_simp; with_reducible rfl
                · simp only [Act.put, List.setIfInBounds_toArray, List.set_cons_zero, List.set_cons_succ]; rfl
                refine seq_take (v := ?_) (a' := ?_) (some 76) rfl rfl (by rfl) ?_ ?_ ?_
                rotate_left; rotate_left
                · intro w' hS; go_simp; with_reducible rfl
                · simp only [Act.put, List.setIfInBounds_toArray, List.set_cons_zero, List.set_cons_succ]; rfl
                refine seq_skip (a' := ?_) (some 77) rfl rfl (by rfl) ?_ ?_
                rotate_left
                · simp only [Act.put, List.setIfInBounds_toArray, List.set_cons_zero, List.set_cons_succ]; rfl
                refine seq_skip (a' := ?_) (some 78) rfl rfl (by rfl) ?_ ?_
                rotate_left
                · simp only [Act.put, List.setIfInBounds_toArray, List.set_cons_zero, List.set_cons_succ]; rfl
                refine seq_skip (a' := ?_) (some 79) rfl rfl (by rfl) ?_ ?_
                rotate_left
                · simp only [Act.put, List.setIfInBounds_toArray, List.set_cons_zero, List.set_cons_succ]; rfl
                refine seq_skip (a' := ?_) (some 80) rfl rfl (by rfl) ?_ ?_
                rotate_left
                · simp only [Act.put, List.setIfInBounds_toArray, List.set_cons_zero, List.set_cons_succ]; rfl
                refine seq_skip (a' := ?_) (some 81) rfl rfl (by rfl) ?_ ?_
                rotate_left
                · simp only [Act.put, List.setIfInBounds_toArray, List.set_cons_zero, List.set_cons_succ]; rfl
                refine seq_skip (a' := ?_) (some 82) rfl rfl (by rfl) ?_ ?_
                rotate_left
                · simp only [Act.put, List.setIfInBounds_toArray, List.set_cons_zero, List.set_cons_succ]; rfl
                refine seq_skip (a' := ?_) (some 83) rfl rfl (by rfl) ?_ ?_
                rotate_left
                · simp only [Act.put, List.setIfInBounds_toArray, List.set_cons_zero, List.set_cons_succ]; rfl
                refine seq_skip (a' := ?_) (some 84) rfl rfl (by rfl) ?_ ?_
                rotate_left
                · simp only [Act.put, List.setIfInBounds_toArray, List.set_cons_zero, List.set_cons_succ]; rfl
                refine seq_skip (a' := ?_) (some 85) rfl rfl (by rfl) ?_ ?_
                rotate_left
                · simp only [Act.put, List.setIfInBounds_toArray, List.set_cons_zero, List.set_cons_succ]; rfl
                refine seq_skip (a' := ?_) (some 86) rfl rfl (by rfl) ?_ ?_
                rotate_left
                · simp only [Act.put, List.setIfInBounds_toArray, List.set_cons_zero, List.set_cons_succ]; rfl
                refine seq_skip (a' := ?_) (some 87) rfl rfl (by rfl) ?_ ?_
                rotate_left
                · simp only [Act.put, List.setIfInBounds_toArray, List.set_cons_zero, List.set_cons_succ]; rfl
                refine seq_take (v := ?_) (a' := ?_) (some 88) rfl rfl (by rfl) ?_ ?_ ?_
                rotate_left; rotate_left
                · intro w' hS; go_simp; with_reducible rfl
                · simp only [Act.put, List.setIfInBounds_toArray, List.set_cons_zero, List.set_cons_succ]; rfl
                refine seq_done ?_
                go_wp2_with fail
                go_roundw
                case rel => exact ⟨k + 1, sg2, u + 1, v + 1, by simp, by omega, rfl, by simp, by simp, by omega, by omega, Lib.hid ⟨HD2.out.symm, by rw [HC1'.out]; rfl, by rw [HC2'.out]; rfl⟩, Lib.hid (bl_next HBr.out hB)⟩
                case measure => simp [intOf]; omega
              · have hne : ¬ (k : Int) = i := by omega
                have hnb : ((k : Int) == i) = false := by (rw [beq_eq_false_iff_ne]; exact hne)
                have hnn : ((k : Int) != i) = true := by (rw [bne_iff_ne]; exact hne)
                have HKI := Lib.hid hki
                clear hki
                cases kq with
                | true =>
                  have HD2 := Lib.hid (show inB (oxs xs) i sg (k + 1) = false by rw [HDU.out, decide_eq_false HKI.out]; simp)
                  have hB := hB.drew
                  refine region_seq (fun w' => Below U.heap.size U w') [(0, true), (1, true), (2, true), (3, true), (4, true), (5, true), (6, true), (7, true), (8, true), (9, true), (10, true), (11, true), (12, true), (13, true), (14, true), (15, true)] (by kernel_rfl) (by kernel_rfl) (fun _ _ _ _ h => h) hB ?_
                  try generalize World.drew _ = wS at hB ⊢
                  refine seq_take (v := ?_) (a' := ?_) (some 73) rfl rfl (by rfl) ?_ ?_ ?_
                  rotate_left; rotate_left
                  · intro w' hS; go_simp; with_reducible rfl
                  · simp only [Act.put, List.setIfInBounds_toArray, List.set_cons_zero, List.set_cons_succ]; rfl
                  refine seq_take (v := ?_) (a' := ?_) (some 74) rfl rfl (by rfl) ?_ ?_ ?_
                  rotate_left; rotate_left
                  · intro w' hS; go_simp; with_reducible rfl
                  · simp only [Act.put, List.setIfInBounds_toArray, List.set_cons_zero, List.set_cons_succ]; rfl
                  refine seq_take (v := ?_) (a' := ?_) (some 75) rfl rfl (by rfl) ?_ ?_ ?_
                  rotate_left; rotate_left
                  · intro w' hS; (first | (go_simp; with_reducible rfl) | (go_simp; exact keyIf3 _ _ _ _ _ _ _ HKQ.out))
                  · simp only [Act.put, List.setIfInBounds_toArray, List.set_cons_zero, List.set_cons_succ]; rfl
                  refine seq_take (v := ?_) (a' := ?_) (some 76) rfl rfl (by rfl) ?_ ?_ ?_
                  rotate_left; rotate_left
                  · intro w' hS; go_simp; with_reducible rfl
                  · simp only [Act.put, List.setIfInBounds_toArray, List.set_cons_zero, List.set_cons_succ]; rfl
                  refine seq_take (v := ?_) (a' := ?_) (some 77) rfl rfl (by rfl) ?_ ?_ ?_
                  rotate_left; rotate_left
                  · intro w' hS; go_simp; with_reducible rfl
                  · simp only [Act.put, List.setIfInBounds_toArray, List.set_cons_zero, List.set_cons_succ]; rfl
                  refine seq_take (v := ?_) (a' := ?_) (some 78) rfl rfl (by rfl) ?_ ?_ ?_
                  rotate_left; rotate_left
                  · intro w' hS; go_simp; with_reducible rfl
                  · simp only [Act.put, List.setIfInBounds_toArray, List.set_cons_zero, List.set_cons_succ]; rfl
                  refine seq_take (v := ?_) (a' := ?_) (some 79) rfl rfl (by rfl) ?_ ?_ ?_
                  rotate_left; rotate_left
                  · intro w' hS; go_simp; with_reducible rfl
                  · simp only [Act.put, List.setIfInBounds_toArray, List.set_cons_zero, List.set_cons_succ]; rfl
                  refine seq_take (v := ?_) (a' := ?_) (some 80) rfl rfl (by rfl) ?_ ?_ ?_
                  rotate_left; rotate_left
                  · intro w' hS; go_simp; with_reducible rfl
                  · simp only [Act.put, List.setIfInBounds_toArray, List.set_cons_zero, List.set_cons_succ]; rfl
                  refine seq_take (v := ?_) (a' := ?_) (some 81) rfl rfl (by rfl) ?_ ?_ ?_
                  rotate_left; rotate_left
                  · intro w' hS; have p1 := QP.out.below hS; have p2 := QXU.out.below hS; have a0 := p1.c0; have a1 := p1.c1; have a2 := p1.c2; have a3 := p1.c3; have a4 := p1.c4; have a5 := p1.c5; have a6 := p1.c6; have a7 := p1.c7; have e0 := p2.c0; have e1 := p2.c1; have e2 := p2.c2; have e3 := p2.c3; have e4 := p2.c4; have e5 := p2.c5; have e6 := p2.c6; have e7 := p2.c7; simp only at a0 a1 a2 a3 a4 a5 a6 a7 e0 e1 e2 e3 e4 e5 e6 e7; go_simp; with_reducible rfl
                  · simp only [Act.put, List.setIfInBounds_toArray, List.set_cons_zero, List.set_cons_succ]; rfl
                  refine seq_take (v := ?_) (a' := ?_) (some 82) rfl rfl (by rfl) ?_ ?_ ?_
                  rotate_left; rotate_left
                  · intro w' hS; go_simp; with_reducible rfl
                  · simp only [Act.put, List.setIfInBounds_toArray, List.set_cons_zero, List.set_cons_succ]; rfl
                  refine seq_take (v := ?_) (a' := ?_) (some 83) rfl rfl (by rfl) ?_ ?_ ?_
                  rotate_left; rotate_left
                  · intro w' hS; go_simp; with_reducible rfl
                  · simp only [Act.put, List.setIfInBounds_toArray, List.set_cons_zero, List.set_cons_succ]; rfl
                  refine seq_take (v := ?_) (a' := ?_) (some 84) rfl rfl (by rfl) ?_ ?_ ?_
                  rotate_left; rotate_left
                  · intro w' hS; go_simp; with_reducible rfl
                  · simp only [Act.put, List.setIfInBounds_toArray, List.set_cons_zero, List.set_cons_succ]; rfl
                  refine seq_take (v := ?_) (a' := ?_) (some 85) rfl rfl (by rfl) ?_ ?_ ?_
                  rotate_left; rotate_left
                  · intro w' hS; go_simp; with_reducible rfl
                  · simp only [Act.put, List.setIfInBounds_toArray, List.set_cons_zero, List.set_cons_succ]; rfl
                  refine seq_take (v := ?_) (a' := ?_) (some 86) rfl rfl (by rfl) ?_ ?_ ?_
                  rotate_left; rotate_left
                  · intro w' hS; have p1 := QP.out.below hS; have p2 := QXU.out.below hS; have a0 := p1.c0; have a1 := p1.c1; have a2 := p1.c2; have a3 := p1.c3; have a4 := p1.c4; have a5 := p1.c5; have a6 := p1.c6; have a7 := p1.c7; have e0 := p2.c0; have e1 := p2.c1; have e2 := p2.c2; have e3 := p2.c3; have e4 := p2.c4; have e5 := p2.c5; have e6 := p2.c6; have e7 := p2.c7; simp only at a0 a1 a2 a3 a4 a5 a6 a7 e0 e1 e2 e3 e4 e5 e6 e7; go_simp; with_reducible rfl
                  · simp only [Act.put, List.setIfInBounds_toArray, List.set_cons_zero, List.set_cons_succ]; rfl
                  refine seq_take (v := ?_) (a' := ?_) (some 87) rfl rfl (by rfl) ?_ ?_ ?_
                  rotate_left; rotate_left
                  · intro w' hS; (first | (go_simp; with_reducible rfl) | (go_simp; exact keyIf3 _ _ _ _ _ _ _ HKQ.out))
                  · simp only [Act.put, List.setIfInBounds_toArray, List.set_cons_zero, List.set_cons_succ]; rfl
                  refine seq_take (v := ?_) (a' := ?_) (some 88) rfl rfl (by rfl) ?_ ?_ ?_
                  rotate_left; rotate_left
                  · intro w' hS; go_simp; with_reducible rfl
                  · simp only [Act.put, List.setIfInBounds_toArray, List.set_cons_zero, List.set_cons_succ]; rfl
                  refine seq_done ?_
                  go_wp2_with fail
                  go_roundw
                  case rel => exact ⟨k + 1, false, u + 1, v + 1, by simp, by omega, rfl, by simp, by simp, by omega, by omega, Lib.hid ⟨HD2.out.symm, by rw [HC1'.out]; rfl, by rw [HC2'.out]; rfl⟩, Lib.hid (bl_next HBr.out hB)⟩
                  case measure => simp [intOf]; omega
                | false =>
                  have HD2 := Lib.hid (show inB (oxs xs) i sg (k + 1) = sg2 by rw [HDU.out, decide_eq_false HKI.out]; simp)
                  have hB := hB.drew
                  refine region_seq (fun w' => Below U.heap.size U w') [(0, true), (1, true), (2, true), (3, true), (4, true), (5, true), (6, true), (7, true), (8, true), (9, true), (10, true), (11, true), (12, true), (13, true), (14, true), (15, true)] (by kernel_rfl) (by kernel_rfl) (fun _ _ _ _ h => h) hB ?_
                  try generalize World.drew _ = wS at hB ⊢
                  refine seq_take (v := ?_) (a' := ?_) (some 73) rfl rfl (by rfl) ?_ ?_ ?_
                  rotate_left; rotate_left
                  · intro w' hS; go_simp; with_reducible rfl
                  · simp only [Act.put, List.setIfInBounds_toArray, List.set_cons_zero, List.set_cons_succ]; rfl
                  refine seq_take (v := ?_) (a' := ?_) (some 74) rfl rfl (by rfl) ?_ ?_ ?_
                  rotate_left; rotate_left
                  · intro w' hS; go_simp; with_reducible rfl
                  · simp only [Act.put, List.setIfInBounds_toArray, List.set_cons_zero, List.set_cons_succ]; rfl
                  refine seq_take (v := ?_) (a' := ?_) (some 75) rfl rfl (by rfl) ?_ ?_ ?_
                  rotate_left; rotate_left
                  · intro w' hS; (first | (go_simp; with_reducible rfl) | (go_simp; exact keyIf3 _ _ _ _ _ _ _ HKQ.out))
                  · simp only [Act.put, List.setIfInBounds_toArray, List.set_cons_zero, List.set_cons_succ]; rfl
                  refine seq_take (v := ?_) (a' := ?_) (some 76) rfl rfl (by rfl) ?_ ?_ ?_
                  rotate_left; rotate_left
                  · intro w' hS; go_simp; with_reducible rfl
                  · simp only [Act.put, List.setIfInBounds_toArray, List.set_cons_zero, List.set_cons_succ]; rfl
                  refine seq_take (v := ?_) (a' := ?_) (some 77) rfl rfl (by rfl) ?_ ?_ ?_
                  rotate_left; rotate_left
                  · intro w' hS; go_simp; with_reducible rfl
                  · simp only [Act.put, List.setIfInBounds_toArray, List.set_cons_zero, List.set_cons_succ]; rfl
                  refine seq_take (v := ?_) (a' := ?_) (some 78) rfl rfl (by rfl) ?_ ?_ ?_
                  rotate_left; rotate_left
                  · intro w' hS; go_simp; with_reducible rfl
                  · simp only [Act.put, List.setIfInBounds_toArray, List.set_cons_zero, List.set_cons_succ]; rfl
                  refine seq_take (v := ?_) (a' := ?_) (some 79) rfl rfl (by rfl) ?_ ?_ ?_
                  rotate_left; rotate_left
                  · intro w' hS; go_simp; with_reducible rfl
                  · simp only [Act.put, List.setIfInBounds_toArray, List.set_cons_zero, List.set_cons_succ]; rfl
                  refine seq_take (v := ?_) (a' := ?_) (some 80) rfl rfl (by rfl) ?_ ?_ ?_
                  rotate_left; rotate_left
                  · intro w' hS; go_simp; with_reducible rfl
                  · simp only [Act.put, List.setIfInBounds_toArray, List.set_cons_zero, List.set_cons_succ]; rfl
                  refine seq_take (v := ?_) (a' := ?_) (some 81) rfl rfl (by rfl) ?_ ?_ ?_
                  rotate_left; rotate_left
                  · intro w' hS; have p1 := QP.out.below hS; have p2 := QXU.out.below hS; have a0 := p1.c0; have a1 := p1.c1; have a2 := p1.c2; have a3 := p1.c3; have a4 := p1.c4; have a5 := p1.c5; have a6 := p1.c6; have a7 := p1.c7; have e0 := p2.c0; have e1 := p2.c1; have e2 := p2.c2; have e3 := p2.c3; have e4 := p2.c4; have e5 := p2.c5; have e6 := p2.c6; have e7 := p2.c7; simp only at a0 a1 a2 a3 a4 a5 a6 a7 e0 e1 e2 e3 e4 e5 e6 e7; go_simp; with_reducible rfl
                  · simp only [Act.put, List.setIfInBounds_toArray, List.set_cons_zero, List.set_cons_succ]; rfl
                  refine seq_take (v := ?_) (a' := ?_) (some 82) rfl rfl (by rfl) ?_ ?_ ?_
                  rotate_left; rotate_left
                  · intro w' hS; go_simp; with_reducible rfl
                  · simp only [Act.put, List.setIfInBounds_toArray, List.set_cons_zero, List.set_cons_succ]; rfl
                  refine seq_take (v := ?_) (a' := ?_) (some 83) rfl rfl (by rfl) ?_ ?_ ?_
                  rotate_left; rotate_left
                  · intro w' hS; go_simp; with_reducible rfl
                  · simp only [Act.put, List.setIfInBounds_toArray, List.set_cons_zero, List.set_cons_succ]; rfl
                  refine seq_take (v := ?_) (a' := ?_) (some 84) rfl rfl (by rfl) ?_ ?_ ?_
                  rotate_left; rotate_left
                  · intro w' hS; go_simp; with_reducible rfl
                  · simp only [Act.put, List.setIfInBounds_toArray, List.set_cons_zero, List.set_cons_succ]; rfl
                  refine seq_take (v := ?_) (a' := ?_) (some 85) rfl rfl (by rfl) ?_ ?_ ?_
                  rotate_left; rotate_left
                  · intro w' hS; go_simp; with_reducible rfl
                  · simp only [Act.put, List.setIfInBounds_toArray, List.set_cons_zero, List.set_cons_succ]; rfl
                  refine seq_take (v := ?_) (a' := ?_) (some 86) rfl rfl (by rfl) ?_ ?_ ?_
                  rotate_left; rotate_left
                  · intro w' hS; have p1 := QP.out.below hS; have p2 := QXU.out.below hS; have a0 := p1.c0; have a1 := p1.c1; have a2 := p1.c2; have a3 := p1.c3; have a4 := p1.c4; have a5 := p1.c5; have a6 := p1.c6; have a7 := p1.c7; have e0 := p2.c0; have e1 := p2.c1; have e2 := p2.c2; have e3 := p2.c3; have e4 := p2.c4; have e5 := p2.c5; have e6 := p2.c6; have e7 := p2.c7; simp only at a0 a1 a2 a3 a4 a5 a6 a7 e0 e1 e2 e3 e4 e5 e6 e7; go_simp; with_reducible rfl
                  · simp only [Act.put, List.setIfInBounds_toArray, List.set_cons_zero, List.set_cons_succ]; rfl
                  refine seq_take (v := ?_) (a' := ?_) (some 87) rfl rfl (by rfl) ?_ ?_ ?_
                  rotate_left; rotate_left
                  · intro w' hS; (first | (go_simp; with_reducible rfl) | (go_simp; exact keyIf3 _ _ _ _ _ _ _ HKQ.out))
                  · simp only [Act.put, List.setIfInBounds_toArray, List.set_cons_zero, List.set_cons_succ]; rfl
                  refine seq_take (v := ?_) (a' := ?_) (some 88) rfl rfl (by rfl) ?_ ?_ ?_
                  rotate_left; rotate_left
                  · intro w' hS; go_simp; with_reducible rfl
                  · simp only [Act.put, List.setIfInBounds_toArray, List.set_cons_zero, List.set_cons_succ]; rfl
                  refine seq_done ?_
                  go_wp2_with fail
                  go_roundw
                  case rel => exact ⟨k + 1, sg2, u + 1, v + 1, by simp, by omega, rfl, by simp, by simp, by omega, by omega, Lib.hid ⟨HD2.out.symm, by rw [HC1'.out]; rfl, by rw [HC2'.out]; rfl⟩, Lib.hid (bl_next HBr.out hB)⟩
                  case measure => simp [intOf]; omega
        · obtain rfl : k = n := by omega
          obtain ⟨U, rfl⟩ : ∃ U : World, U = wr := ⟨_, rfl⟩
          have HUV := Lib.hid (show u = v by
            have h1 := HI.out.2.1; have h2 := HI.out.2.2
            rw [← HN.out, ← oxs_len xs, List.take_length] at h1
            rw [← HZL.out, ← oxs_len zs, List.take_length] at h2
            rw [h1, h2]; exact cnt_stab HST.out x)
          obtain rfl : u = v := HUV.out
          have hux : ((u : Int) != u) = false := by simp
          have HIN := Lib.hid (show sg2 = inB (oxs xs) i sg (oxs xs).length by rw [HI.out.1, oxs_len, HN.out])
          clear HI HUV
          have QXU := QX.out.below HBr.out
          have a0 := QXU.c0; have a1 := QXU.c1; have a2 := QXU.c2; have a3 := QXU.c3; have a4 := QXU.c4; have a5 := QXU.c5; have a6 := QXU.c6; have a7 := QXU.c7
          simp only at a0 a1 a2 a3 a4 a5 a6 a7
          clear QXU
          have HCR := Lib.hid (evright_calls U 0 0 (SX.out.below HBr.out) ZX.out (objsS_nil U) (by rintro p ⟨⟩) (by unfold in64; omega) (by decide))
          have HRX := Lib.hid (show rightE ⟨0, x, 0, oxs []⟩ = rightO x from rfl)
          unfold evV at HCR
          obtain ⟨rx, hrx⟩ : ∃ b, rightO x = b := ⟨_, rfl⟩
          have HRX2 := Lib.hid (HRX.out.trans hrx)
          have HSG2 := Lib.hid (show sgl (oxs xs) (i + 1) = (sg2 && rx) by rw [HIN.out, ← hrx, ← HGX.out, HSG.out]; rfl)
          clear hrx HRX
          have hB := Below.refl U.heap.size U
          cases sg2 with
          | false =>
            go_upto_region 27 with (go_at_call 21; ((with_reducible refine HCR.out.mono ?_); rintro e w' ⟨rfl, hb⟩; rw [HRX2.out]; have hB := bl_next hB hb; clear hb))
            obtain ⟨U2, rfl⟩ : ∃ U : World, U = w' := ⟨_, rfl⟩
            have HBr2 := Lib.hid (bl_next HBr.out hB)
            clear hB
            have hB := Below.refl U2.heap.size U2
            have QZU := Lib.hid (QZ.out.below HBr2.out)
            by_cases h0 : i = 0
            · subst h0
              have hB := hB.drew
              refine region_seq (fun w' => Below U2.heap.size U2 w') [(0, true), (1, true), (2, true), (3, true), (4, true), (5, true), (6, true), (7, true), (8, true), (9, true), (10, true), (11, true), (12, true), (13, true), (14, true), (15, true), (16, true), (17, true), (18, false), (19, true), (20, true)] (by kernel_rfl) (by kernel_rfl) (fun _ _ _ _ h => h) hB ?_
              try generalize World.drew _ = wS at hB ⊢
              refine seq_take (v := ?_) (a' := ?_) (some 99) rfl rfl (by rfl) ?_ ?_ ?_
              rotate_left; rotate_left
              · intro w' hS; go_simp; with_reducible rfl
              · simp only [Act.put, List.setIfInBounds_toArray, List.set_cons_zero, List.set_cons_succ]; rfl
              refine seq_take (v := ?_) (a' := ?_) (some 100) rfl rfl (by rfl) ?_ ?_ ?_
              rotate_left; rotate_left
              · intro w' hS; go_simp; with_reducible rfl
              · simp only [Act.put, List.setIfInBounds_toArray, List.set_cons_zero, List.set_cons_succ]; rfl
              refine seq_take (v := ?_) (a' := ?_) (some 101) rfl rfl (by rfl) ?_ ?_ ?_
              rotate_left; rotate_left
              · intro w' hS; go_simp; with_reducible rfl
              · simp only [Act.put, List.setIfInBounds_toArray, List.set_cons_zero, List.set_cons_succ]; rfl
              refine seq_take (v := ?_) (a' := ?_) (some 102) rfl rfl (by rfl) ?_ ?_ ?_
              rotate_left; rotate_left
              · intro w' hS; go_simp; with_reducible rfl
              · simp only [Act.put, List.setIfInBounds_toArray, List.set_cons_zero, List.set_cons_succ]; rfl
              refine seq_take (v := ?_) (a' := ?_) (some 103) rfl rfl (by rfl) ?_ ?_ ?_
              rotate_left; rotate_left
              · intro w' hS; go_simp; with_reducible rfl
              · simp only [Act.put, List.setIfInBounds_toArray, List.set_cons_zero, List.set_cons_succ]; rfl
              refine seq_take (v := ?_) (a' := ?_) (some 104) rfl rfl (by rfl) ?_ ?_ ?_
              rotate_left; rotate_left
              · intro w' hS; go_simp; with_reducible rfl
              · simp only [Act.put, List.setIfInBounds_toArray, List.set_cons_zero, List.set_cons_succ]; rfl
              refine seq_take (v := ?_) (a' := ?_) (some 105) rfl rfl (by rfl) ?_ ?_ ?_
              rotate_left; rotate_left
              · intro w' hS; go_simp; with_reducible rfl
              · simp only [Act.put, List.setIfInBounds_toArray, List.set_cons_zero, List.set_cons_succ]; rfl
              refine seq_skip (a' := ?_) (some 106) rfl rfl (by rfl) ?_ ?_
              rotate_left
              · simp only [Act.put, List.setIfInBounds_toArray, List.set_cons_zero, List.set_cons_succ]; rfl
              refine seq_skip (a' := ?_) (some 107) rfl rfl (by rfl) ?_ ?_
              rotate_left
              · simp only [Act.put, List.setIfInBounds_toArray, List.set_cons_zero, List.set_cons_succ]; rfl
              refine seq_skip (a' := ?_) (some 108) rfl rfl (by rfl) ?_ ?_
              rotate_left
              · simp only [Act.put, List.setIfInBounds_toArray, List.set_cons_zero, List.set_cons_succ]; rfl
              refine seq_skip (a' := ?_) (some 109) rfl rfl (by rfl) ?_ ?_
              rotate_left
              · simp only [Act.put, List.setIfInBounds_toArray, List.set_cons_zero, List.set_cons_succ]; rfl
              refine seq_skip (a' := ?_) (some 110) rfl rfl (by rfl) ?_ ?_
              rotate_left
              · simp only [Act.put, List.setIfInBounds_toArray, List.set_cons_zero, List.set_cons_succ]; rfl
              refine seq_skip (a' := ?_) (some 111) rfl rfl (by rfl) ?_ ?_
              rotate_left
              · simp only [Act.put, List.setIfInBounds_toArray, List.set_cons_zero, List.set_cons_succ]; rfl
              refine seq_skip (a' := ?_) (some 112) rfl rfl (by rfl) ?_ ?_
              rotate_left
              · simp only [Act.put, List.setIfInBounds_toArray, List.set_cons_zero, List.set_cons_succ]; rfl
              refine seq_skip (a' := ?_) (some 113) rfl rfl (by rfl) ?_ ?_
              rotate_left
              · simp only [Act.put, List.setIfInBounds_toArray, List.set_cons_zero, List.set_cons_succ]; rfl
              refine seq_skip (a' := ?_) (some 114) rfl rfl (by rfl) ?_ ?_
              rotate_left
              · simp only [Act.put, List.setIfInBounds_toArray, List.set_cons_zero, List.set_cons_succ]; rfl
              refine seq_skip (a' := ?_) (some 115) rfl rfl (by rfl) ?_ ?_
              rotate_left
              · simp only [Act.put, List.setIfInBounds_toArray, List.set_cons_zero, List.set_cons_succ]; rfl
              refine seq_skip (a' := ?_) (some 116) rfl rfl (by rfl) ?_ ?_
              rotate_left
              · simp only [Act.put, List.setIfInBounds_toArray, List.set_cons_zero, List.set_cons_succ]; rfl
              refine seq_skip1 (a' := ?_) (some 117) rfl rfl (by rfl) ?_ hB ?_
              rotate_left
              · simp only [Act.put, List.setIfInBounds_toArray, List.set_cons_zero, List.set_cons_succ]; rfl
              refine seq_take (v := ?_) (a' := ?_) (some 118) rfl rfl (by rfl) ?_ ?_ ?_
              rotate_left; rotate_left
              · intro w' hS; go_simp; with_reducible rfl
              · simp only [Act.put, List.setIfInBounds_toArray, List.set_cons_zero, List.set_cons_succ]; rfl
              refine seq_take (v := ?_) (a' := ?_) (some 119) rfl rfl (by rfl) ?_ ?_ ?_
              rotate_left; rotate_left
              · intro w' hS; go_simp; with_reducible rfl
              · simp only [Act.put, List.setIfInBounds_toArray, List.set_cons_zero, List.set_cons_succ]; rfl
              refine seq_done ?_
              go_wp2_with fail
              go_roundw
              case rel => exact ⟨1, false, rfl, by omega, rfl, Lib.hid (by rw [HSG2.out]; rfl), Lib.hid (bl_next HBr2.out hB)⟩
              case measure => simp [intOf]; omega
            · have hk0 : (0 : Int) < i := by omega
              have hk1 : ((i : Int) - 1).toNat = i - 1 := by omega
              have hk2 : (0 : Int) ≤ (i : Int) - 1 := by omega
              have hk3 : (i : Int) - 1 < k := by omega
              have hk4 : (1 : Int) ≤ i := by omega
              have hk5 : 0 < i := by omega
              have hk6 : decide (0 < i) = true := decide_eq_true hk5
              have hk7 : IntKind.i64.wrap ((i : Int) - 1) = (i : Int) - 1 := IntWalk.i64_in _ (by omega)
              have hk8 : 1 ≤ i := hk5
              have hiz' : i - 1 < zs.length := by rw [HZL.out]; omega
              obtain ⟨b3, o3, d3, he3, q3, _⟩ := (show ObjsS V (.slice (some ⟨b2, o2, none⟩) zs.length c) zs by rw [HZL.out]; exact HZV.out).at' hiz'
              cases he3
              have zy := small_at HSZ.out hiz'
              have HLT := Lib.hid (show ltB (kTO z) (kTO (zs[i - 1]'hiz').1) = false by
                have h := List.pairwise_iff_getElem.1 HSRT.out (i - 1) i (by rw [oxs_len]; exact hiz') (by rw [oxs_len]; exact hiz) (by omega)
                rwa [oxs_getE hiz', HZI.out] at h)
              generalize zs[i - 1]'hiz' = y at q3 zy HLT
              obtain ⟨y, sy⟩ := y
              simp only at zy HLT
              have hzy1 := zy.1.1; have hzy2 := zy.1.2.1; have hzy3 := zy.1.2.2
              have QYU := Lib.hid (q3.below HBr2.out)
              have HLL := Lib.hid (show Op.bytesLess (keyText z.key.kind z.key.space z.key.name).toList (keyText y.key.kind y.key.space y.key.name).toList = false from HLT.out)
              clear q3 zy h0
              have hB := hB.drew
              refine region_seq (fun w' => Below U2.heap.size U2 w') [(0, true), (1, true), (2, true), (3, true), (4, true), (5, true), (6, true), (7, true), (8, true), (9, true), (10, true), (11, true), (12, true), (13, true), (14, true), (15, true), (16, true), (17, true), (18, false), (19, true), (20, true)] (by kernel_rfl) (by kernel_rfl) (fun _ _ _ _ h => h) hB ?_
              try generalize World.drew _ = wS at hB ⊢
              refine seq_take (v := ?_) (a' := ?_) (some 99) rfl rfl (by rfl) ?_ ?_ ?_
              rotate_left; rotate_left
              · intro w' hS; go_simp; with_reducible rfl
              · simp only [Act.put, List.setIfInBounds_toArray, List.set_cons_zero, List.set_cons_succ]; rfl
              refine seq_take (v := ?_) (a' := ?_) (some 100) rfl rfl (by rfl) ?_ ?_ ?_
              rotate_left; rotate_left
              · intro w' hS; go_simp; with_reducible rfl
              · simp only [Act.put, List.setIfInBounds_toArray, List.set_cons_zero, List.set_cons_succ]; rfl
              refine seq_take (v := ?_) (a' := ?_) (some 101) rfl rfl (by rfl) ?_ ?_ ?_
              rotate_left; rotate_left
              · intro w' hS; go_simp; with_reducible rfl
              · simp only [Act.put, List.setIfInBounds_toArray, List.set_cons_zero, List.set_cons_succ]; rfl
              refine seq_take (v := ?_) (a' := ?_) (some 102) rfl rfl (by rfl) ?_ ?_ ?_
              rotate_left; rotate_left
              · intro w' hS; go_simp; with_reducible rfl
              · simp only [Act.put, List.setIfInBounds_toArray, List.set_cons_zero, List.set_cons_succ]; rfl
              refine seq_take (v := ?_) (a' := ?_) (some 103) rfl rfl (by rfl) ?_ ?_ ?_
              rotate_left; rotate_left
              · intro w' hS; go_simp; with_reducible rfl
              · simp only [Act.put, List.setIfInBounds_toArray, List.set_cons_zero, List.set_cons_succ]; rfl
              refine seq_take (v := ?_) (a' := ?_) (some 104) rfl rfl (by rfl) ?_ ?_ ?_
              rotate_left; rotate_left
              · intro w' hS; go_simp; with_reducible rfl
              · simp only [Act.put, List.setIfInBounds_toArray, List.set_cons_zero, List.set_cons_succ]; rfl
              refine seq_take (v := ?_) (a' := ?_) (some 105) rfl rfl (by rfl) ?_ ?_ ?_
              rotate_left; rotate_left
              · intro w' hS; go_simp; with_reducible rfl
              · simp only [Act.put, List.setIfInBounds_toArray, List.set_cons_zero, List.set_cons_succ]; rfl
              refine seq_take (v := ?_) (a' := ?_) (some 106) rfl rfl (by rfl) ?_ ?_ ?_
              rotate_left; rotate_left
              · intro w' hS; go_simp; with_reducible rfl
              · simp only [Act.put, List.setIfInBounds_toArray, List.set_cons_zero, List.set_cons_succ]; rfl
              refine seq_take (v := ?_) (a' := ?_) (some 107) rfl rfl (by rfl) ?_ ?_ ?_
              rotate_left; rotate_left
              · intro w' hS; go_simp; with_reducible rfl
              · simp only [Act.put, List.setIfInBounds_toArray, List.set_cons_zero, List.set_cons_succ]; rfl
              refine seq_take (v := ?_) (a' := ?_) (some 108) rfl rfl (by rfl) ?_ ?_ ?_
              rotate_left; rotate_left
              · intro w' hS; go_simp; with_reducible rfl
              · simp only [Act.put, List.setIfInBounds_toArray, List.set_cons_zero, List.set_cons_succ]; rfl
              refine seq_take (v := ?_) (a' := ?_) (some 109) rfl rfl (by rfl) ?_ ?_ ?_
              rotate_left; rotate_left
              · intro w' hS; go_simp; with_reducible rfl
              · simp only [Act.put, List.setIfInBounds_toArray, List.set_cons_zero, List.set_cons_succ]; rfl
              refine seq_take (v := ?_) (a' := ?_) (some 110) rfl rfl (by rfl) ?_ ?_ ?_
              rotate_left; rotate_left
              · intro w' hS; have p1 := QZU.out.below hS; have p2 := QYU.out.below hS; have a0 := p1.c0; have a1 := p1.c1; have a2 := p1.c2; have e0 := p2.c0; have e1 := p2.c1; have e2 := p2.c2; simp only at a0 a1 a2 e0 e1 e2; go_simp; with_reducible rfl
              · simp only [Act.put, List.setIfInBounds_toArray, List.set_cons_zero, List.set_cons_succ]; rfl
              refine seq_take (v := ?_) (a' := ?_) (some 111) rfl rfl (by rfl) ?_ ?_ ?_
              rotate_left; rotate_left
              · intro w' hS; go_simp; with_reducible rfl
              · simp only [Act.put, List.setIfInBounds_toArray, List.set_cons_zero, List.set_cons_succ]; rfl
              refine seq_take (v := ?_) (a' := ?_) (some 112) rfl rfl (by rfl) ?_ ?_ ?_
              rotate_left; rotate_left
              · intro w' hS; go_simp; with_reducible rfl
              · simp only [Act.put, List.setIfInBounds_toArray, List.set_cons_zero, List.set_cons_succ]; rfl
              refine seq_take (v := ?_) (a' := ?_) (some 113) rfl rfl (by rfl) ?_ ?_ ?_
              rotate_left; rotate_left
              · intro w' hS; go_simp; with_reducible rfl
              · simp only [Act.put, List.setIfInBounds_toArray, List.set_cons_zero, List.set_cons_succ]; rfl
              refine seq_take (v := ?_) (a' := ?_) (some 114) rfl rfl (by rfl) ?_ ?_ ?_
              rotate_left; rotate_left
              · intro w' hS; go_simp; with_reducible rfl
              · simp only [Act.put, List.setIfInBounds_toArray, List.set_cons_zero, List.set_cons_succ]; rfl
              refine seq_take (v := ?_) (a' := ?_) (some 115) rfl rfl (by rfl) ?_ ?_ ?_
              rotate_left; rotate_left
              · intro w' hS; go_simp; with_reducible rfl
              · simp only [Act.put, List.setIfInBounds_toArray, List.set_cons_zero, List.set_cons_succ]; rfl
              refine seq_take (v := ?_) (a' := ?_) (some 116) rfl rfl (by rfl) ?_ ?_ ?_
              rotate_left; rotate_left
              · intro w' hS; have p1 := QZU.out.below hS; have p2 := QYU.out.below hS; have a0 := p1.c0; have a1 := p1.c1; have a2 := p1.c2; have e0 := p2.c0; have e1 := p2.c1; have e2 := p2.c2; simp only at a0 a1 a2 e0 e1 e2; go_simp; with_reducible rfl
              · simp only [Act.put, List.setIfInBounds_toArray, List.set_cons_zero, List.set_cons_succ]; rfl
              refine seq_call (args := ?_) Try.func25 (by kernel_rfl) rfl (some 117) rfl rfl (by rfl) rfl ?_ ?_
              rotate_left
              · simp only [List.map_toArray, List.map_cons, List.map_nil]; go_simp; rfl
              with_reducible refine (less_calls _ _ _ _ _ _ _ (by omega) (by omega)).mono ?_
              rintro e w' ⟨rfl, hb⟩
              rw [HLL.out]
              refine ⟨_, rfl, bl_next (by repeat (first | with_reducible exact hB | refine Below.alloc ?_ (by have := hB.size; simp; omega) _ | refine bl_dN ?_ _ | refine Below.drew ?_ | refine Below.setCell ?_ (by have := hB.size; simp; omega) _)) hb, ?_⟩
              have hB := bl_next (by repeat (first | with_reducible exact hB | refine Below.alloc ?_ (by have := hB.size; simp; omega) _ | refine bl_dN ?_ _ | refine Below.drew ?_ | refine Below.setCell ?_ (by have := hB.size; simp; omega) _)) hb; clear hb
              simp only [Act.put, List.setIfInBounds_toArray, List.set_cons_zero, List.set_cons_succ]
              refine seq_take (v := ?_) (a' := ?_) (some 118) rfl rfl (by rfl) ?_ ?_ ?_
              rotate_left; rotate_left
              · intro w' hS; go_simp; with_reducible rfl
              · simp only [Act.put, List.setIfInBounds_toArray, List.set_cons_zero, List.set_cons_succ]; rfl
              refine seq_take (v := ?_) (a' := ?_) (some 119) rfl rfl (by rfl) ?_ ?_ ?_
              rotate_left; rotate_left
              · intro w' hS; go_simp; with_reducible rfl
              · simp only [Act.put, List.setIfInBounds_toArray, List.set_cons_zero, List.set_cons_succ]; rfl
              refine seq_done ?_
              go_wp2_with fail
              go_roundw
              case rel => exact ⟨i + 1, false, by simp, by omega, rfl, Lib.hid (by rw [HSG2.out]; rfl), Lib.hid (bl_next HBr2.out hB)⟩
              case measure => simp [intOf]; omega
          | true =>
            go_upto_region 27 with (go_at_call 21; ((with_reducible refine HCR.out.mono ?_); rintro e w' ⟨rfl, hb⟩; rw [HRX2.out]; have hB := bl_next hB hb; clear hb))
            obtain ⟨U2, rfl⟩ : ∃ U : World, U = w' := ⟨_, rfl⟩
            have HBr2 := Lib.hid (bl_next HBr.out hB)
            clear hB
            have hB := Below.refl U2.heap.size U2
            have QZU := Lib.hid (QZ.out.below HBr2.out)
            by_cases h0 : i = 0
            · subst h0
              have hB := hB.drew
              refine region_seq (fun w' => Below U2.heap.size U2 w') [(0, true), (1, true), (2, true), (3, true), (4, true), (5, true), (6, true), (7, true), (8, true), (9, true), (10, true), (11, true), (12, true), (13, true), (14, true), (15, true), (16, true), (17, true), (18, false), (19, true), (20, true)] (by kernel_rfl) (by kernel_rfl) (fun _ _ _ _ h => h) hB ?_
              try generalize World.drew _ = wS at hB ⊢
              refine seq_take (v := ?_) (a' := ?_) (some 99) rfl rfl (by rfl) ?_ ?_ ?_
              rotate_left; rotate_left
              · intro w' hS; go_simp; with_reducible rfl
              · simp only [Act.put, List.setIfInBounds_toArray, List.set_cons_zero, List.set_cons_succ]; rfl
              refine seq_take (v := ?_) (a' := ?_) (some 100) rfl rfl (by rfl) ?_ ?_ ?_
              rotate_left; rotate_left
              · intro w' hS; go_simp; with_reducible rfl
              · simp only [Act.put, List.setIfInBounds_toArray, List.set_cons_zero, List.set_cons_succ]; rfl
              refine seq_take (v := ?_) (a' := ?_) (some 101) rfl rfl (by rfl) ?_ ?_ ?_
              rotate_left; rotate_left
              · intro w' hS; go_simp; with_reducible rfl
              · simp only [Act.put, List.setIfInBounds_toArray, List.set_cons_zero, List.set_cons_succ]; rfl
              refine seq_take (v := ?_) (a' := ?_) (some 102) rfl rfl (by rfl) ?_ ?_ ?_
              rotate_left; rotate_left
              · intro w' hS; go_simp; with_reducible rfl
              · simp only [Act.put, List.setIfInBounds_toArray, List.set_cons_zero, List.set_cons_succ]; rfl
              refine seq_take (v := ?_) (a' := ?_) (some 103) rfl rfl (by rfl) ?_ ?_ ?_
              rotate_left; rotate_left
              · intro w' hS; go_simp; with_reducible rfl
              · simp only [Act.put, List.setIfInBounds_toArray, List.set_cons_zero, List.set_cons_succ]; rfl
              refine seq_take (v := ?_) (a' := ?_) (some 104) rfl rfl (by rfl) ?_ ?_ ?_
              rotate_left; rotate_left
              · intro w' hS; go_simp; with_reducible rfl
              · simp only [Act.put, List.setIfInBounds_toArray, List.set_cons_zero, List.set_cons_succ]; rfl
              refine seq_take (v := ?_) (a' := ?_) (some 105) rfl rfl (by rfl) ?_ ?_ ?_
              rotate_left; rotate_left
              · intro w' hS; go_simp; with_reducible rfl
              · simp only [Act.put, List.setIfInBounds_toArray, List.set_cons_zero, List.set_cons_succ]; rfl
              refine seq_skip (a' := ?_) (some 106) rfl rfl (by rfl) ?_ ?_
              rotate_left
              · simp only [Act.put, List.setIfInBounds_toArray, List.set_cons_zero, List.set_cons_succ]; rfl
              refine seq_skip (a' := ?_) (some 107) rfl rfl (by rfl) ?_ ?_
              rotate_left
              · simp only [Act.put, List.setIfInBounds_toArray, List.set_cons_zero, List.set_cons_succ]; rfl
              refine seq_skip (a' := ?_) (some 108) rfl rfl (by rfl) ?_ ?_
              rotate_left
              · simp only [Act.put, List.setIfInBounds_toArray, List.set_cons_zero, List.set_cons_succ]; rfl
              refine seq_skip (a' := ?_) (some 109) rfl rfl (by rfl) ?_ ?_
              rotate_left
              · simp only [Act.put, List.setIfInBounds_toArray, List.set_cons_zero, List.set_cons_succ]; rfl
              refine seq_skip (a' := ?_) (some 110) rfl rfl (by rfl) ?_ ?_
              rotate_left
              · simp only [Act.put, List.setIfInBounds_toArray, List.set_cons_zero, List.set_cons_succ]; rfl
              refine seq_skip (a' := ?_) (some 111) rfl rfl (by rfl) ?_ ?_
              rotate_left
              · simp only [Act.put, List.setIfInBounds_toArray, List.set_cons_zero, List.set_cons_succ]; rfl
              refine seq_skip (a' := ?_) (some 112) rfl rfl (by rfl) ?_ ?_
              rotate_left
              · simp only [Act.put, List.setIfInBounds_toArray, List.set_cons_zero, List.set_cons_succ]; rfl
              refine seq_skip (a' := ?_) (some 113) rfl rfl (by rfl) ?_ ?_
              rotate_left
              · simp only [Act.put, List.setIfInBounds_toArray, List.set_cons_zero, List.set_cons_succ]; rfl
              refine seq_skip (a' := ?_) (some 114) rfl rfl (by rfl) ?_ ?_
              rotate_left
              · simp only [Act.put, List.setIfInBounds_toArray, List.set_cons_zero, List.set_cons_succ]; rfl
              refine seq_skip (a' := ?_) (some 115) rfl rfl (by rfl) ?_ ?_
              rotate_left
              · simp only [Act.put, List.setIfInBounds_toArray, List.set_cons_zero, List.set_cons_succ]; rfl
              refine seq_skip (a' := ?_) (some 116) rfl rfl (by rfl) ?_ ?_
              rotate_left
              · simp only [Act.put, List.setIfInBounds_toArray, List.set_cons_zero, List.set_cons_succ]; rfl
              refine seq_skip1 (a' := ?_) (some 117) rfl rfl (by rfl) ?_ hB ?_
              rotate_left
              · simp only [Act.put, List.setIfInBounds_toArray, List.set_cons_zero, List.set_cons_succ]; rfl
              refine seq_take (v := ?_) (a' := ?_) (some 118) rfl rfl (by rfl) ?_ ?_ ?_
              rotate_left; rotate_left
              · intro w' hS; go_simp; with_reducible rfl
              · simp only [Act.put, List.setIfInBounds_toArray, List.set_cons_zero, List.set_cons_succ]; rfl
              refine seq_take (v := ?_) (a' := ?_) (some 119) rfl rfl (by rfl) ?_ ?_ ?_
              rotate_left; rotate_left
              · intro w' hS; go_simp; with_reducible rfl
              · simp only [Act.put, List.setIfInBounds_toArray, List.set_cons_zero, List.set_cons_succ]; rfl
              refine seq_done ?_
              go_wp2_with fail
              go_roundw
              case rel => exact ⟨1, rx, rfl, by omega, rfl, Lib.hid (by rw [HSG2.out]; rfl), Lib.hid (bl_next HBr2.out hB)⟩
              case measure => simp [intOf]; omega
            · have hk0 : (0 : Int) < i := by omega
              have hk1 : ((i : Int) - 1).toNat = i - 1 := by omega
              have hk2 : (0 : Int) ≤ (i : Int) - 1 := by omega
              have hk3 : (i : Int) - 1 < k := by omega
              have hk4 : (1 : Int) ≤ i := by omega
              have hk5 : 0 < i := by omega
              have hk6 : decide (0 < i) = true := decide_eq_true hk5
              have hk7 : IntKind.i64.wrap ((i : Int) - 1) = (i : Int) - 1 := IntWalk.i64_in _ (by omega)
              have hk8 : 1 ≤ i := hk5
              have hiz' : i - 1 < zs.length := by rw [HZL.out]; omega
              obtain ⟨b3, o3, d3, he3, q3, _⟩ := (show ObjsS V (.slice (some ⟨b2, o2, none⟩) zs.length c) zs by rw [HZL.out]; exact HZV.out).at' hiz'
              cases he3
              have zy := small_at HSZ.out hiz'
              have HLT := Lib.hid (show ltB (kTO z) (kTO (zs[i - 1]'hiz').1) = false by
                have h := List.pairwise_iff_getElem.1 HSRT.out (i - 1) i (by rw [oxs_len]; exact hiz') (by rw [oxs_len]; exact hiz) (by omega)
                rwa [oxs_getE hiz', HZI.out] at h)
              generalize zs[i - 1]'hiz' = y at q3 zy HLT
              obtain ⟨y, sy⟩ := y
              simp only at zy HLT
              have hzy1 := zy.1.1; have hzy2 := zy.1.2.1; have hzy3 := zy.1.2.2
              have QYU := Lib.hid (q3.below HBr2.out)
              have HLL := Lib.hid (show Op.bytesLess (keyText z.key.kind z.key.space z.key.name).toList (keyText y.key.kind y.key.space y.key.name).toList = false from HLT.out)
              clear q3 zy h0
              have hB := hB.drew
              refine region_seq (fun w' => Below U2.heap.size U2 w') [(0, true), (1, true), (2, true), (3, true), (4, true), (5, true), (6, true), (7, true), (8, true), (9, true), (10, true), (11, true), (12, true), (13, true), (14, true), (15, true), (16, true), (17, true), (18, false), (19, true), (20, true)] (by kernel_rfl) (by kernel_rfl) (fun _ _ _ _ h => h) hB ?_
              try generalize World.drew _ = wS at hB ⊢
              refine seq_take (v := ?_) (a' := ?_) (some 99) rfl rfl (by rfl) ?_ ?_ ?_
              rotate_left; rotate_left
              · intro w' hS; go_simp; with_reducible rfl
              · simp only [Act.put, List.setIfInBounds_toArray, List.set_cons_zero, List.set_cons_succ]; rfl
              refine seq_take (v := ?_) (a' := ?_) (some 100) rfl rfl (by rfl) ?_ ?_ ?_
              rotate_left; rotate_left
              · intro w' hS; go_simp; with_reducible rfl
              · simp only [Act.put, List.setIfInBounds_toArray, List.set_cons_zero, List.set_cons_succ]; rfl
              refine seq_take (v := ?_) (a' := ?_) (some 101) rfl rfl (by rfl) ?_ ?_ ?_
              rotate_left; rotate_left
              · intro w' hS; go_simp; with_reducible rfl
              · simp only [Act.put, List.setIfInBounds_toArray, List.set_cons_zero, List.set_cons_succ]; rfl
              refine seq_take (v := ?_) (a' := ?_) (some 102) rfl rfl (by rfl) ?_ ?_ ?_
              rotate_left; rotate_left
              · intro w' hS; go_simp; with_reducible rfl
              · simp only [Act.put, List.setIfInBounds_toArray, List.set_cons_zero, List.set_cons_succ]; rfl
              refine seq_take (v := ?_) (a' := ?_) (some 103) rfl rfl (by rfl) ?_ ?_ ?_
              rotate_left; rotate_left
              · intro w' hS; go_simp; with_reducible rfl
              · simp only [Act.put, List.setIfInBounds_toArray, List.set_cons_zero, List.set_cons_succ]; rfl
              refine seq_take (v := ?_) (a' := ?_) (some 104) rfl rfl (by rfl) ?_ ?_ ?_
              rotate_left; rotate_left
              · intro w' hS; go_simp; with_reducible rfl
              · simp only [Act.put, List.setIfInBounds_toArray, List.set_cons_zero, List.set_cons_succ]; rfl
              refine seq_take (v := ?_) (a' := ?_) (some 105) rfl rfl (by rfl) ?_ ?_ ?_
              rotate_left; rotate_left
              · intro w' hS; go_simp; with_reducible rfl
              · simp only [Act.put, List.setIfInBounds_toArray, List.set_cons_zero, List.set_cons_succ]; rfl
              refine seq_take (v := ?_) (a' := ?_) (some 106) rfl rfl (by rfl) ?_ ?_ ?_
              rotate_left; rotate_left
              · intro w' hS; go_simp; with_reducible rfl
              · simp only [Act.put, List.setIfInBounds_toArray, List.set_cons_zero, List.set_cons_succ]; rfl
              refine seq_take (v := ?_) (a' := ?_) (some 107) rfl rfl (by rfl) ?_ ?_ ?_
              rotate_left; rotate_left
              · intro w' hS; go_simp; with_reducible rfl
              · simp only [Act.put, List.setIfInBounds_toArray, List.set_cons_zero, List.set_cons_succ]; rfl
              refine seq_take (v := ?_) (a' := ?_) (some 108) rfl rfl (by rfl) ?_ ?_ ?_
              rotate_left; rotate_left
              · intro w' hS; go_simp; with_reducible rfl
              · simp only [Act.put, List.setIfInBounds_toArray, List.set_cons_zero, List.set_cons_succ]; rfl
              refine seq_take (v := ?_) (a' := ?_) (some 109) rfl rfl (by rfl) ?_ ?_ ?_
              rotate_left; rotate_left
              · intro w' hS; go_simp; with_reducible rfl
              · simp only [Act.put, List.setIfInBounds_toArray, List.set_cons_zero, List.set_cons_succ]; rfl
              refine seq_take (v := ?_) (a' := ?_) (some 110) rfl rfl (by rfl) ?_ ?_ ?_
              rotate_left; rotate_left
              · intro w' hS; have p1 := QZU.out.below hS; have p2 := QYU.out.below hS; have a0 := p1.c0; have a1 := p1.c1; have a2 := p1.c2; have e0 := p2.c0; have e1 := p2.c1; have e2 := p2.c2; simp only at a0 a1 a2 e0 e1 e2; go_simp; with_reducible rfl
              · simp only [Act.put, List.setIfInBounds_toArray, List.set_cons_zero, List.set_cons_succ]; rfl
              refine seq_take (v := ?_) (a' := ?_) (some 111) rfl rfl (by rfl) ?_ ?_ ?_
              rotate_left; rotate_left
              · intro w' hS; go_simp; with_reducible rfl
              · simp only [Act.put, List.setIfInBounds_toArray, List.set_cons_zero, List.set_cons_succ]; rfl
              refine seq_take (v := ?_) (a' := ?_) (some 112) rfl rfl (by rfl) ?_ ?_ ?_
              rotate_left; rotate_left
              · intro w' hS; go_simp; with_reducible rfl
              · simp only [Act.put, List.setIfInBounds_toArray, List.set_cons_zero, List.set_cons_succ]; rfl
              refine seq_take (v := ?_) (a' := ?_) (some 113) rfl rfl (by rfl) ?_ ?_ ?_
              rotate_left; rotate_left
              · intro w' hS; go_simp; with_reducible rfl
              · simp only [Act.put, List.setIfInBounds_toArray, List.set_cons_zero, List.set_cons_succ]; rfl
              refine seq_take (v := ?_) (a' := ?_) (some 114) rfl rfl (by rfl) ?_ ?_ ?_
              rotate_left; rotate_left
              · intro w' hS; go_simp; with_reducible rfl
              · simp only [Act.put, List.setIfInBounds_toArray, List.set_cons_zero, List.set_cons_succ]; rfl
              refine seq_take (v := ?_) (a' := ?_) (some 115) rfl rfl (by rfl) ?_ ?_ ?_
              rotate_left; rotate_left
              · intro w' hS; go_simp; with_reducible rfl
              · simp only [Act.put, List.setIfInBounds_toArray, List.set_cons_zero, List.set_cons_succ]; rfl
              refine seq_take (v := ?_) (a' := ?_) (some 116) rfl rfl (by rfl) ?_ ?_ ?_
              rotate_left; rotate_left
              · intro w' hS; have p1 := QZU.out.below hS; have p2 := QYU.out.below hS; have a0 := p1.c0; have a1 := p1.c1; have a2 := p1.c2; have e0 := p2.c0; have e1 := p2.c1; have e2 := p2.c2; simp only at a0 a1 a2 e0 e1 e2; go_simp; with_reducible rfl
              · simp only [Act.put, List.setIfInBounds_toArray, List.set_cons_zero, List.set_cons_succ]; rfl
              refine seq_call (args := ?_) Try.func25 (by kernel_rfl) rfl (some 117) rfl rfl (by rfl) rfl ?_ ?_
              rotate_left
              · simp only [List.map_toArray, List.map_cons, List.map_nil]; go_simp; rfl
              with_reducible refine (less_calls _ _ _ _ _ _ _ (by omega) (by omega)).mono ?_
              rintro e w' ⟨rfl, hb⟩
              rw [HLL.out]
              refine ⟨_, rfl, bl_next (by repeat (first | with_reducible exact hB | refine Below.alloc ?_ (by have := hB.size; simp; omega) _ | refine bl_dN ?_ _ | refine Below.drew ?_ | refine Below.setCell ?_ (by have := hB.size; simp; omega) _)) hb, ?_⟩
              have hB := bl_next (by repeat (first | with_reducible exact hB | refine Below.alloc ?_ (by have := hB.size; simp; omega) _ | refine bl_dN ?_ _ | refine Below.drew ?_ | refine Below.setCell ?_ (by have := hB.size; simp; omega) _)) hb; clear hb
              simp only [Act.put, List.setIfInBounds_toArray, List.set_cons_zero, List.set_cons_succ]
              refine seq_take (v := ?_) (a' := ?_) (some 118) rfl rfl (by rfl) ?_ ?_ ?_
              rotate_left; rotate_left
              · intro w' hS; go_simp; with_reducible rfl
              · simp only [Act.put, List.setIfInBounds_toArray, List.set_cons_zero, List.set_cons_succ]; rfl
              refine seq_take (v := ?_) (a' := ?_) (some 119) rfl rfl (by rfl) ?_ ?_ ?_
              rotate_left; rotate_left
              · intro w' hS; go_simp; with_reducible rfl
              · simp only [Act.put, List.setIfInBounds_toArray, List.set_cons_zero, List.set_cons_succ]; rfl
              refine seq_done ?_
              go_wp2_with fail
              go_roundw
              case rel => exact ⟨i + 1, rx, by simp, by omega, rfl, Lib.hid (by rw [HSG2.out]; rfl), Lib.hid (bl_next HBr2.out hB)⟩
              case measure => simp [intOf]; omega
    · obtain rfl : i = n := by omega
      obtain ⟨U, rfl⟩ : ∃ U : World, U = wr := ⟨_, rfl⟩
      have HXU := Lib.hid (HXV.out.below HBr.out); have HZU := Lib.hid (HZV.out.below HBr.out)
      have hB := Below.refl U.heap.size U
      have HRM := Lib.hid (relMax (l := oxs xs) (fun o ho => by
        obtain ⟨p, hp, rfl⟩ := List.mem_map.1 ho
        exact ((show ObjsS U (.slice al xs.length cl) xs by rw [HN.out]; exact HXU.out).2 p hp).2) (by rw [oxs_len, HN.out]; omega))
      have HSGE := Lib.hid (show relB 9223372036854775807 (oxs zs) = sg by rw [HZE.out, HRM.out, oxs_len, HN.out, ← HSG.out])
      obtain ⟨rl, hrl⟩ : ∃ b, relB 9223372036854775807 (oxs xs) = b := ⟨_, rfl⟩
      obtain ⟨sb, hsb⟩ : ∃ b, decide (oxs zs = oxs xs) = b := ⟨_, rfl⟩
      have HRS := Lib.hid (show rl = true → sb = true from fun e => by
        rw [e] at hrl
        rw [← hsb, decide_eq_true_eq, HZE.out]; exact relMax_same hrl)
      have HR1 : Hid (∀ U', Below U.heap.size U U' → Calls Try.prog 21 #[.agg #[.int .i64 2, .string ⟨#[]⟩, .string ⟨#[]⟩, .string ⟨#[]⟩, .int .i64 0, .string ⟨#[]⟩, .bool false, .bool false, .slice none 0 0, .int .i64 9223372036854775807, .slice al i cl]] U' fun e w' => e = .returned (.bool rl) ∧ Below U'.heap.size U' w') := Lib.hid fun U' h => by
        have q := evright_calls U' 2 9223372036854775807 (zeroO_S U') zeroO_small ((show ObjsS U (.slice al xs.length cl) xs by rw [HN.out]; exact HXU.out).below h) HSX.out (by unfold in64; omega) (by rw [HN.out]; omega)
        rw [HN.out] at q
        refine q.mono fun e w' z => ⟨z.1.trans (ret_bool ?_), z.2⟩
        rw [← hrl]; rfl
      have HR2 : Hid (∀ U', Below U.heap.size U U' → Calls Try.prog 21 #[.agg #[.int .i64 2, .string ⟨#[]⟩, .string ⟨#[]⟩, .string ⟨#[]⟩, .int .i64 0, .string ⟨#[]⟩, .bool false, .bool false, .slice none 0 0, .int .i64 9223372036854775807, .slice A i c]] U' fun e w' => e = .returned (.bool sg) ∧ Below U'.heap.size U' w') := Lib.hid fun U' h => by
        have q := evright_calls U' 2 9223372036854775807 (zeroO_S U') zeroO_small ((show ObjsS U (.slice A zs.length c) zs by rw [HZL.out]; exact HZU.out).below h) HSZ.out (by unfold in64; omega) (by rw [HZL.out]; omega)
        rw [HZL.out] at q
        refine q.mono fun e w' z => ⟨z.1.trans (ret_bool ?_), z.2⟩
        rw [← HSGE.out]; rfl
      have HO1 : Hid (∀ U', Below U.heap.size U U' → Calls Try.prog 18 #[.slice A i c, .slice al i cl] U' fun e w' => e = .returned (.bool sb) ∧ Below U'.heap.size U' w') := Lib.hid fun U' h => by
        have q := robjs_calls U' ((show ObjsS U (.slice A zs.length c) zs by rw [HZL.out]; exact HZU.out).below h) ((show ObjsS U (.slice al xs.length cl) xs by rw [HN.out]; exact HXU.out).below h) (by rw [HZL.out]; omega) (by rw [HN.out]; omega) HSZ.out HSX.out
        rw [HN.out, HZL.out] at q
        exact q.mono fun e w' z => ⟨z.1.trans (ret_bool hsb), z.2⟩
      clear hrl hsb
      cases rl with
      | false =>
        go_wp2_with (first | (go_at_call 21; ((first | (with_reducible refine (HR1.out _ hB).mono ?_) | (with_reducible refine (HR2.out _ hB).mono ?_)); rintro e w' ⟨rfl, hb⟩; have hB := bl_next hB hb; clear hb)) | (go_at_call 18; ((with_reducible refine (HO1.out _ hB).mono ?_); rintro e w' ⟨rfl, hb⟩; have hB := bl_next hB hb; clear hb)) | (go_at_call 13; refine (alive7_calls _).mono ?_; rintro e w' ⟨rfl, hb⟩; have hB := bl_next hB hb; clear hb))
        go_ret
        exact ⟨ret_bool (by first | rfl | simp), HBV.out.trans ((bl_next HBr.out hB).mono HBV.out.size)⟩
      | true =>
        obtain rfl : sb = true := HRS.out rfl
        go_wp2_with (first | (go_at_call 21; ((first | (with_reducible refine (HR1.out _ hB).mono ?_) | (with_reducible refine (HR2.out _ hB).mono ?_)); rintro e w' ⟨rfl, hb⟩; have hB := bl_next hB hb; clear hb)) | (go_at_call 18; ((with_reducible refine (HO1.out _ hB).mono ?_); rintro e w' ⟨rfl, hb⟩; have hB := bl_next hB hb; clear hb)) | (go_at_call 13; refine (alive7_calls _).mono ?_; rintro e w' ⟨rfl, hb⟩; have hB := bl_next hB hb; clear hb))
        go_ret
        exact ⟨ret_bool (by first | rfl | simp), HBV.out.trans ((bl_next HBr.out hB).mono HBV.out.size)⟩
theorem eventSortedWalk {W : World} (l : List ObjD) (v : Value) (h : (kSlice kObj).K W anyB l [v]) : Calls Try.prog 4 #[v] W fun e W' => e = .returned (.bool true) ∧ Below W.heap.size W W' := by
  obtain ⟨v', xs, e, _, hx⟩ := objs_of h
  cases e
  exact eventSorted_law W hx

end Go.Proofs.Ythhfcambdmdgfaa

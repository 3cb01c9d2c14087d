import Derived.Test.YthhfcambdmdgfaaKsrai
import Derived.Test.YthhfcambdmdgfaaKsraa
import Derived.Test.YthhfcambdmdgfaaKsrah
namespace Go.Proofs.Ythhfcambdmdgfaa
open Go.RowKit Go.Maps
set_option linter.unusedVariables false
set_option linter.unusedSimpArgs false
theorem StoreAt.keptB {w w' : World} {base sp mb : Nat} {ver : Int} {M : AM KS OX} {lv : Value} {L : List LX} (h : StoreAt w base sp mb ver M lv L) (hk : Kept (fun b => b = sp ∨ b = mb ∨ lv.ownBlock = some b) w w') (hb : base ≤ w.heap.size) : Below base w w' :=
  hk.below hb (fun k q => by
    rcases q with q | q | q
    · rw [q]; exact h.ge.1
    · rw [q]; exact h.ge.2
    · exact (rw_type h.row q).1)
theorem put_n {M : AM KS OX} {k : KS} {v : OX} {n : Nat} (h : M.length ≤ n) : (putA ltKS M k v).length ≤ n + 1 := Nat.le_trans (put_le _ _ _ _) (by omega)
theorem del_n {M : AM KS OX} {k : KS} {n : Nat} (h : M.length ≤ n) : (delA M k).length ≤ n := Nat.le_trans (del_le _ _) h
theorem has_put (M : AM KS OX) (k : KS) (v : OX) : hasA (putA ltKS M k v) k = true := by rw [hasA_get, getA_put, if_pos rfl]; rfl
theorem has_del (M : AM KS OX) (k : KS) : hasA (delA M k) k = false := by rw [hasA_get, getA_del, if_pos rfl]; rfl
theorem delpp_nil (k : KS) (a b : OX) : delA (putA ltKS (putA ltKS ([] : AM KS OX) k a) k b) k = [] := by
  rw [List.eq_nil_iff_forall_not_mem]
  intro q hq
  obtain ⟨h1, h2⟩ := mem_del.1 hq
  rcases mem_put.1 h1 with rfl | ⟨h3, _⟩
  · exact h2 rfl
  · rcases mem_put.1 h3 with rfl | ⟨h4, _⟩
    · exact h2 rfl
    · cases h4
theorem log3 {w : World} {b : Nat} {v : Value} {ys : List LY} (h : LogF w b v ys) {a0 a1 a2 : Int × ObjD} (e : lyOf ys = [a0, a1, a2]) :
    ∃ g c, v = .slice (some ⟨g, 0, none⟩) 3 c ∧ w.cell? ⟨g, 15, none⟩ = some (.int .i64 a1.2.ver) ∧ w.cell? ⟨g, 16, none⟩ = some (.string a1.2.cls) ∧ w.cell? ⟨g, 22, none⟩ = some (.int .i64 a2.1) ∧ w.cell? ⟨g, 27, none⟩ = some (.string a2.2.cls) := by
  obtain ⟨e0, e1, e2, rfl⟩ : ∃ e0 e1 e2, ys = [e0, e1, e2] := by
    match ys, e with
    | [e0, e1, e2], _ => exact ⟨e0, e1, e2, rfl⟩
  have hr := h.row
  obtain ⟨g, c, rfl⟩ := rw_pos hr (by simp)
  have z := (rw_cells hr).2.2.1
  simp only [lyOf, List.map_cons, List.map_nil, List.cons.injEq] at e
  obtain ⟨_, h1, h2, _⟩ := e
  refine ⟨g, c, rfl, ?_, ?_, ?_, ?_⟩
  · rw [z 15 (by simp), ← h1]; rfl
  · rw [z 16 (by simp), ← h1]; rfl
  · rw [z 22 (by simp), ← h2]; rfl
  · rw [z 27 (by simp), ← h2]; rfl
set_option maxRecDepth 100000 in
set_option maxHeartbeats 8000000 in
theorem alive9_calls (w : World) : Calls Try.prog 27 #[] w fun e w' => e = .returned (.bool true) ∧ Below w.heap.size w w' := by
  go_enter Try.func27, Try.ntmps27
  go_upto_region 3 with (go_at_call 28; refine (snew_calls _).mono ?_; rintro e w1 ⟨sp, mb, rfl, hst, hb⟩; have H1 := Lib.hid hst; have HB1 := Lib.hid hb; clear hst hb)
  first | with_reducible refine name_wp ?_ | with_reducible refine name_calls ?_
  intro V2 hV
  have hbV : Below w1.heap.size w1 V2 := by rw [hV]; exact (Below.refl _ _).alloc (Nat.le_refl _) _
  have H2 := Lib.hid (H1.out.below hbV)
  have HB2 := Lib.hid (bl_next HB1.out hbV)
  have HX2 := Lib.hid (show V2.heap[w1.heap.size]? = some (.cells #[.string ⟨#[112, 111, 100]⟩, .string ⟨#[97]⟩, .string ⟨#[120]⟩, .int .i64 (-7), .string ⟨#[104, 105, 103, 104]⟩, .bool false, .bool false, .slice none 0 0] 27) by rw [hV]; exact blk_new w1 _)
  clear hV hbV
  have a0 := blk_cell HX2.out 0
  have a1 := blk_cell HX2.out 1
  have a2 := blk_cell HX2.out 2
  have a3 := blk_cell HX2.out 3
  have a4 := blk_cell HX2.out 4
  have a5 := blk_cell HX2.out 5
  have a6 := blk_cell HX2.out 6
  have a7 := blk_cell HX2.out 7
  go_upto_region 4 with (go_at_call 39; refine (putA_calls H2.out (by omega) (by simp) (by simp)).mono ?_; rintro e w3 ⟨lv3, x3, y3, rfl, hst, hkp⟩; have H3 := Lib.hid hst.out; have HX3 := Lib.hid (H2.out.box HX2.out hkp.out); have HB3 := Lib.hid (HB2.out.trans (StoreAt.keptB H2.out hkp.out HB2.out.size)); clear hst hkp)
  clear a0 a1 a2 a3 a4 a5 a6 a7
  have b0 := blk_cell HX3.out 0
  have b1 := blk_cell HX3.out 1
  have b2 := blk_cell HX3.out 2
  have b3 := blk_cell HX3.out 3
  have b4 := blk_cell HX3.out 4
  have b5 := blk_cell HX3.out 5
  have b6 := blk_cell HX3.out 6
  have b7 := blk_cell HX3.out 7
  go_upto_region 5 with (go_at_call 39; refine (putA_calls H3.out (by omega) (Nat.le_trans (put_n (Nat.le_refl 0)) (by omega)) (by simp)).mono ?_; rintro e w4 ⟨lv4, x4, y4, rfl, hst, hkp⟩; have H4 := Lib.hid hst.out; have HX4 := Lib.hid (H3.out.box HX3.out hkp.out); have HB4 := Lib.hid (HB3.out.trans (StoreAt.keptB H3.out hkp.out HB3.out.size)); clear hst hkp)
  clear b0 b1 b2 b3 b4 b5 b6 b7
  have c0 := blk_cell HX4.out 0
  have c1 := blk_cell HX4.out 1
  have c2 := blk_cell HX4.out 2
  have c3 := blk_cell HX4.out 3
  have c4 := blk_cell HX4.out 4
  have c5 := blk_cell HX4.out 5
  have c6 := blk_cell HX4.out 6
  have c7 := blk_cell HX4.out 7
  go_upto_region 6 with (go_at_call 40; refine (delA_calls H4.out (has_put _ _ _) (by omega) (Nat.le_trans (put_n (put_n (Nat.le_refl 0))) (by omega)) (by simp)).mono ?_; rintro e w5 ⟨lv5, x5, y5, rfl, hst, hkp⟩; have H5 := Lib.hid hst.out; have HX5 := Lib.hid (H4.out.box HX4.out hkp.out); have HB5 := Lib.hid (HB4.out.trans (StoreAt.keptB H4.out hkp.out HB4.out.size)); clear hst hkp)
  clear c0 c1 c2 c3 c4 c5 c6 c7
  have d0 := blk_cell HX5.out 0
  have d1 := blk_cell HX5.out 1
  have d2 := blk_cell HX5.out 2
  have d3 := blk_cell HX5.out 3
  have d4 := blk_cell HX5.out 4
  have d5 := blk_cell HX5.out 5
  have d6 := blk_cell HX5.out 6
  have d7 := blk_cell HX5.out 7
  go_upto_region 7 with (go_at_call 40; refine (delNo_calls H5.out (has_del _ _) (by omega) (Nat.le_trans (del_n (put_n (put_n (Nat.le_refl 0)))) (by omega)) (by simp)).mono ?_; rintro e w6 ⟨rfl, hb⟩; have H6 := Lib.hid (H5.out.below hb); have HB6 := Lib.hid (bl_next HB5.out hb); clear hb)
  clear d0 d1 d2 d3 d4 d5 d6 d7
  go_upto_region 8 with (go_at_call 39; refine (putNo_calls H6.out (by omega) (Nat.le_trans (del_n (put_n (put_n (Nat.le_refl 0)))) (by omega)) (by simp)).mono ?_; rintro e w7 ⟨rfl, hb⟩; have H7 := Lib.hid (H6.out.below hb); have HB7 := Lib.hid (bl_next HB6.out hb); clear hb)
  go_upto_region 9 with (go_at_call 38; refine (slog_calls _ H7.out (by intro e he; simp only [List.nil_append, List.mem_append, List.mem_singleton] at he; rcases he with (rfl | rfl) | rfl <;> first | exact oA_small | exact ⟨kA.2, (show (ByteArray.mk #[]).size ≤ 1000 by decide), (show (0 : Nat) ≤ 300 by omega), by rintro p ⟨⟩⟩) (by simp)).mono ?_; rintro e w8 ⟨v8, ys, rfl, hlog, hly, hb⟩; obtain ⟨g, cg, rfl, l1, l2, l3, l4⟩ := log3 hlog hly; have H8 := Lib.hid (H7.out.below hb); have HB8 := Lib.hid (bl_next HB7.out hb); clear hb hlog hly)
  have H9 := Lib.hid H8.out
  rw [delpp_nil] at H9
  go_upto_region 10 with (go_at_call 34; refine (ssnapshot_calls _ H9.out (by rintro q ⟨⟩) (by simp) (by simp) (by simp)).mono ?_; rintro e w9 ⟨v9, zs, rfl, hz, hzs, hb⟩; have l1 := cb hb l1; have l2 := cb hb l2; have l3 := cb hb l3; have l4 := cb hb l4; have H10 := Lib.hid (H9.out.below hb); have HB10 := Lib.hid (bl_next HB8.out hb); clear hb; obtain rfl : zs = [] := (by cases zs with | nil => rfl | cons p r => exact absurd hzs (by simp [oxs, srtX])); obtain ⟨A9, c9, rfl⟩ := hz.form; clear hz hzs; unfold evV)
  first | with_reducible refine name_wp ?_ | with_reducible refine name_calls ?_
  intro V hV
  have gV : V.heap[w9.heap.size]? = some (.cells #[.int .i64 2, .string ⟨#[]⟩, .string ⟨#[]⟩, .string ⟨#[]⟩, .int .i64 0, .string ⟨#[]⟩, .bool false, .bool false, .slice none 0 0, .int .i64 3, .slice A9 0 c9] 30) := by rw [hV]; exact blk_new w9 _
  have hbV : Below w9.heap.size w9 V := by rw [hV]; exact (Below.refl _ _).alloc (Nat.le_refl _) _
  clear hV
  have m1 : V.cell? ⟨g, 15, none⟩ = some (.int .i64 2) := cb hbV l1
  have m2 : V.cell? ⟨g, 16, none⟩ = some (.string ⟨#[104, 105, 103, 104]⟩) := cb hbV l2
  have m3 : V.cell? ⟨g, 22, none⟩ = some (.int .i64 1) := cb hbV l3
  have m4 : V.cell? ⟨g, 27, none⟩ = some (.string ⟨#[]⟩) := cb hbV l4
  have e0 := blk_cell gV 0
  have e9 := blk_cell gV 9
  have e10 := blk_cell gV 10
  have HV := Lib.hid (show StoreAt V w.heap.size sp mb 3 [] lv5 _ from H10.out.below hbV)
  have HBV := Lib.hid (bl_next HB10.out hbV)
  clear gV hbV l1 l2 l3 l4
  go_wp2_with (go_at_call 36; refine (sversion_calls _ HV.out).mono ?_; rintro e w10 ⟨rfl, hb⟩; have m1 := cb hb m1; have m2 := cb hb m2; have m3 := cb hb m3; have m4 := cb hb m4; have e0 := cb hb e0; have e9 := cb hb e9; have e10 := cb hb e10; have HBZ := Lib.hid (bl_next HBV.out hb); clear hb)
  go_ret
  exact ⟨rfl, HBZ.out⟩
end Go.Proofs.Ythhfcambdmdgfaa
namespace Go.Proofs.Ythhfcambdmdgfaa
theorem getElem_data (s : ByteArray) (i : Nat) (h : i < s.size) : s.data.toList[i]? = some s[i] := by
  rw [ByteArray.getElem_eq_getElem_data]; simp
theorem findAt_append (a r : ByteArray) (c : UInt8) (ha : ∀ x ∈ a.data.toList, x ≠ c) : findAt (a ++ ⟨#[c]⟩ ++ r) c 0 = a.size := by
  have hz : (a ++ ⟨#[c]⟩ ++ r).size = a.size + 1 + r.size := by simp [ByteArray.size_append]; rfl
  have hd : (a ++ ⟨#[c]⟩ ++ r).data.toList = a.data.toList ++ c :: r.data.toList := by simp
  refine findAt_unique _ c a.size (by omega) ?_ (fun j hj => ?_)
  · have := getElem_data (a ++ ⟨#[c]⟩ ++ r) a.size (by omega)
    rw [hd, List.getElem?_append_right (by simp)] at this
    simpa using this.symm
  · have := getElem_data (a ++ ⟨#[c]⟩ ++ r) j (by omega)
    rw [hd, List.getElem?_append_left (by simpa using hj)] at this
    exact ha _ (List.mem_of_getElem? this)
theorem ba_ext {a b : ByteArray} (h : a.data.toList = b.data.toList) : a = b := ByteArray.ext (Array.toList_inj.1 h)
theorem cutA_append (a r : ByteArray) (c : UInt8) (ha : ∀ x ∈ a.data.toList, x ≠ c) : cutA (a ++ ⟨#[c]⟩ ++ r) c = a := by
  rw [cutA, findAt_append a r c ha]
  refine ba_ext ?_
  simp [ByteArray.data_extract]
theorem cutB_append (a r : ByteArray) (c : UInt8) (ha : ∀ x ∈ a.data.toList, x ≠ c) : cutB (a ++ ⟨#[c]⟩ ++ r) c = r := by
  rw [cutB, findAt_append a r c ha]
  refine ba_ext ?_
  simp [ByteArray.data_extract, ByteArray.size_append, List.drop_append]
  rw [List.drop_of_length_le (by simp), show ({ data := #[c] } : ByteArray).size = 1 from rfl, show a.size + 1 + r.size - (a.size + 1) = r.size from by omega, List.take_of_length_le (l := r.data.toList) (by simp)]
  simp
theorem sign_ne {x : UInt8} (h : signB (x.toNat : Int) = true) : x ≠ 47 := by rintro rfl; simp [signB] at h
theorem right_ne {s : ByteArray} (h : rightB s = true) : ∀ x ∈ s.data.toList, x ≠ 47 := by
  intro x hx
  simp only [rightB, Bool.and_eq_true, lettersTo] at h
  rw [List.take_of_length_le (by simp)] at h
  exact sign_ne (List.all_eq_true.1 h.1.1.1.1 x hx)
theorem keyText_eq (k s n : ByteArray) : keyText k s n = s ++ ⟨#[47]⟩ ++ (k ++ ⟨#[47]⟩ ++ n) := by simp [keyText, ByteArray.append_assoc]
def pS (s : ByteArray) : ByteArray := cutA s 47
def pK (s : ByteArray) : ByteArray := cutA (cutB s 47) 47
def pN (s : ByteArray) : ByteArray := cutB (cutB s 47) 47
theorem parse_text {k s n : ByteArray} (h : keyB k s n = true) : pK (keyText k s n) = k ∧ pS (keyText k s n) = s ∧ pN (keyText k s n) = n := by
  simp only [keyB, Bool.and_eq_true] at h
  have h1 := right_ne h.1.1; have h2 := right_ne h.1.2
  refine ⟨?_, ?_, ?_⟩
  · rw [pK, keyText_eq, cutB_append _ _ _ h1, cutA_append _ _ _ h2]
  · rw [pS, keyText_eq, cutA_append _ _ _ h1]
  · rw [pN, keyText_eq, cutB_append _ _ _ h1, cutB_append _ _ _ h2]
theorem keyText_inj {k s n k' s' n' : ByteArray} (h : keyB k s n = true) (h' : keyB k' s' n' = true) (e : keyText k s n = keyText k' s' n') : k = k' ∧ s = s' ∧ n = n' := by
  obtain ⟨a1, a2, a3⟩ := parse_text h
  obtain ⟨b1, b2, b3⟩ := parse_text h'
  rw [e] at a1 a2 a3
  exact ⟨a1.symm.trans b1, a2.symm.trans b2, a3.symm.trans b3⟩
end Go.Proofs.Ythhfcambdmdgfaa
namespace Go.Proofs.Ythhfcambdmdgfaa
open Go.RowKit Go.Maps Srt
set_option linter.unusedVariables false
set_option linter.unusedSimpArgs false
def cntO (o : ObjD) (l : List ObjD) : Nat := (l.filter fun z => decide (z = o)).length
theorem cnt_stab {l s : List ObjD} (h : Stab kTO l s) (o : ObjD) : cntO o l = cntO o s := by
  unfold cntO
  have e : ∀ q : List ObjD, q.filter (fun z => decide (z = o)) = (q.filter (fun z => decide (kTO z = kTO o))).filter (fun z => decide (z = o)) := fun q => by
    rw [List.filter_filter]
    congr 1; funext z
    by_cases hz : z = o
    · subst hz; simp
    · simp [hz]
  rw [e l, e s, h (kTO o)]
theorem stab_perm {l s : List ObjD} (h : Stab kTO l s) : l.Perm s := by
  rw [List.perm_iff_count]
  intro o
  have := cnt_stab h o
  unfold cntO at this
  rw [List.count_eq_length_filter, List.count_eq_length_filter]
  have e : (fun z => z == o) = fun z : ObjD => decide (z = o) := by funext z; rw [Bool.eq_iff_iff]; simp
  rw [show (fun x => x == o) = fun z : ObjD => decide (z = o) from e]
  exact this
end Go.Proofs.Ythhfcambdmdgfaa
namespace Go.Proofs.Ythhfcambdmdgfaa
open Go.RowKit Go.Maps
set_option linter.unusedVariables false
set_option linter.unusedSimpArgs false
theorem kL_inj {a b : KS} (h : kL a = kL b) : a = b := by
  have h1 := kL_key a
  rw [h] at h1
  exact Subtype.ext (keyV_inj (kS_keyed.inj h1 (kL_key b)))
theorem strictKS : Strict ltKS :=
  ⟨fun a => Go.WideShapes.before_irrefl _, fun h k => Go.WideShapes.before_trans h k, fun {a b} h => Go.ChangeMaps.before_total (kS_law.str (kL_key a)) (kS_law.str (kL_key b)) (fun e => h (kL_inj e))⟩
/-- What holds of the store's map: n is the version. -/
def PInv (M : AM KS OX) (n : Int) : Prop := RiseA ltKS M ∧ ∀ q ∈ M, keyOk q.1.1 = true ∧ q.1.1 = q.2.1.key ∧ rightO q.2.1 = true ∧ q.2.1.ver ≤ n ∧ objSmall q.2.1
theorem rightO_ver {o : ObjD} (h : rightO { o with ver := 1 } = true) {v : Int} (hv : 1 ≤ v) : rightO { o with ver := v } = true := by
  unfold rightO at h ⊢
  simp only [Bool.and_eq_true, decide_eq_true_eq] at h ⊢
  exact ⟨⟨⟨⟨h.1.1.1.1, hv⟩, h.1.1.2⟩, h.1.2⟩, h.2⟩
theorem rightO_key {o : ObjD} (h : rightO o = true) : keyOk o.key = true := by
  unfold rightO at h
  simp only [Bool.and_eq_true] at h
  exact h.1.1.1.1
theorem PInv.nil : PInv [] 0 := ⟨List.Pairwise.nil, by rintro q ⟨⟩⟩
theorem PInv.put {M : AM KS OX} {n : Int} {k : KS} {o : ObjD} {y : Value} (h : PInv M n) (hr : rightO { o with ver := 1 } = true) (hk : k.1 = o.key) (hs : objSmall o) (hn : 0 ≤ n) : PInv (putA ltKS M k ({ o with ver := n + 1 }, y)) (n + 1) :=
  ⟨rise_put strictKS h.1 k _, fun q hq => by
    rcases mem_put.1 hq with rfl | ⟨r, _⟩
    · exact ⟨by rw [hk]; exact rightO_key (o := { o with ver := 1 }) hr, hk, rightO_ver hr (by omega), Int.le_refl _, hs⟩
    · obtain ⟨a, b, c, d, e⟩ := h.2 q r
      exact ⟨a, b, c, by omega, e⟩⟩
theorem PInv.del {M : AM KS OX} {n : Int} {k : KS} (h : PInv M n) : PInv (delA M k) (n + 1) :=
  ⟨rise_del strictKS h.1 k, fun q hq => by
    obtain ⟨a, b, c, d, e⟩ := h.2 q (mem_del.1 hq).1
    exact ⟨a, b, c, by omega, e⟩⟩
theorem PInv.keys {M : AM KS OX} {n : Int} (h : PInv M n) : (M.map (·.1)).Nodup := keys_nodup strictKS h.1
theorem nodup_on {α β : Type} {f : α → β} : ∀ {l : List α}, l.Nodup → (∀ a ∈ l, ∀ b ∈ l, f a = f b → a = b) → (l.map f).Nodup
  | [], _, _ => List.nodup_nil
  | x :: r, h, hf => by
    rw [List.nodup_cons] at h
    rw [List.map_cons, List.nodup_cons]
    refine ⟨fun q => ?_, nodup_on h.2 (fun a ha b hb => hf a (List.mem_cons_of_mem _ ha) b (List.mem_cons_of_mem _ hb))⟩
    obtain ⟨y, hy, e⟩ := List.mem_map.1 q
    have := hf y (List.mem_cons_of_mem _ hy) x (List.mem_cons_self ..) e
    exact h.1 (this ▸ hy)
theorem PInv.texts {M : AM KS OX} {n : Int} (h : PInv M n) : ((M.map (·.2.1)).map kTO).Nodup := by
  rw [List.map_map]
  refine nodup_on (nodup_fst h.keys) (fun a ha b hb e => fst_inj h.keys ha hb ?_)
  obtain ⟨a1, a2, _⟩ := h.2 a ha
  obtain ⟨b1, b2, _⟩ := h.2 b hb
  have e' : kT a.2.1.key = kT b.2.1.key := e
  rw [← a2, ← b2] at e'
  obtain ⟨e1, e2, e3⟩ := keyText_inj a1 b1 e'
  exact Subtype.ext (keyD_ext e1 e2 e3)
end Go.Proofs.Ythhfcambdmdgfaa
namespace Go.Proofs.Ythhfcambdmdgfaa
open Go.RowKit Go.Maps Srt
set_option linter.unusedVariables false
set_option linter.unusedSimpArgs false
theorem objOf_put (M : AM KS OX) (k : KS) (v : OX) : objOf (putA ltKS M k v) k = v.1 := by unfold objOf; rw [getA_put, if_pos rfl]; rfl
structure ActIs (M : AM KS OX) (n : Int) (k : KS) (gone : Bool) (o : ObjD) (M1 : AM KS OX) : Prop where
  inv : PInv M1 (n + 1)
  has : hasA M1 k = !gone
  obj : gone = false → objOf M1 k = { o with ver := n + 1 }
  right : rightE ⟨wKind gone, { wObj gone o with ver := n + 1 }, 0, []⟩ = true
  small : objSmall (wObj gone o)
  len : M1.length ≤ M.length + 1
  key : (wObj gone o).key = o.key
theorem act_is {M : AM KS OX} {n : Int} {k : KS} {gone : Bool} {o : ObjD} (y : Value) (h : PInv M n) (hk : k.1 = o.key) (hs : objSmall o) (hn : 0 ≤ n) (he : wErr M k gone o = 0) : ActIs M n k gone o (wMap M k gone o n y) := by
  cases gone with
  | true =>
    have e1 : keyOk k.1 = true := by
      cases q : keyOk k.1 with
      | true => rfl
      | false => unfold wErr delErr at he; rw [if_pos rfl, q] at he; cases he
    refine ⟨h.del, has_del _ _, (fun q => by cases q), ?_, ⟨hs.1, (show (ByteArray.mk #[]).size ≤ 1000 by decide), (show (0:Nat) ≤ 300 by omega), by rintro p ⟨⟩⟩, Nat.le_trans (del_le _ _) (Nat.le_succ _), rfl⟩
    unfold rightE wKind wObj
    rw [if_pos rfl]
    rw [if_neg (show ¬ ((1 : Int) = 0) by decide), if_pos rfl]
    rw [if_pos rfl]
    rw [hk] at e1
    rw [Bool.and_eq_true]
    exact ⟨e1, decide_eq_true (show (1 : Int) ≤ n + 1 by omega)⟩
  | false =>
    have e1 : rightO { o with ver := 1 } = true := by
      cases q : rightO { o with ver := 1 } with
      | true => rfl
      | false => unfold wErr putErr at he; rw [if_neg (by decide), q] at he; cases he
    refine ⟨h.put e1 hk hs hn, has_put _ _ _, (fun _ => objOf_put _ _ _), rightO_ver e1 (by omega), hs, put_le _ _ _ _, rfl⟩
theorem y_at {w : World} {v : Value} {ys : List LY} (h : SliS w v 11 ys.length (yC ys)) {k : Nat} (hk : k < ys.length) : ∃ b off c, v = .slice (some ⟨b, off, none⟩) ys.length c ∧ EvAt w b (off + k * 11) (ys[k]'hk).1.1 (ys[k]'hk).1.2.1 (ys[k]'hk).1.2.2 0 (ys[k]'hk).2 := by
  obtain ⟨b, off, c, he, _, hx⟩ := h.at' hk
  have z : ∀ j u, j < 11 → (yX (ys[k]'hk))[j]? = some u → w.cell? ⟨b, off + k * 11 + j, none⟩ = some u := fun j u hj e => hx j hj u (by rw [show yC ys = ys.flatMap yX from rfl, flat_at yX 11 (fun _ => rfl) ys k hk j hj]; exact e)
  exact ⟨b, off, c, he, ⟨z 0 _ (by omega) rfl, z 1 _ (by omega) rfl, z 2 _ (by omega) rfl, z 3 _ (by omega) rfl, z 4 _ (by omega) rfl, z 5 _ (by omega) rfl, z 6 _ (by omega) rfl, z 7 _ (by omega) rfl, z 8 _ (by omega) rfl, z 9 _ (by omega) rfl, z 10 _ (by omega) rfl⟩⟩
theorem ly_len {ys : List LY} {L : List LX} (h : lyOf ys = lxOf L) : ys.length = L.length := by
  have := congrArg List.length h
  simpa [lyOf, lxOf] using this
theorem slogN_calls (w : World) {base sp mb : Nat} {ver : Int} {M : AM KS OX} {lv : Value} {L : List LX} {m : Nat} (h : StoreAt w base sp mb ver M lv L) (hS : ∀ e ∈ L, objSmall e.2.1) (hL : L.length ≤ 1000000) (hm : L.length = m) :
    Calls Try.prog 38 #[.pointer (some ⟨sp, 0, none⟩)] w fun e w' => ∃ A c, e = .returned (.slice A m c) ∧ Hid (∃ ys, LogF w' w.heap.size (.slice A m c) ys ∧ lyOf ys = lxOf L) ∧ Below w.heap.size w w' :=
  (slog_calls w h hS hL).mono fun e w' ⟨v, ys, h1, h2, h3, h4⟩ => by
    have hl := ly_len h3
    obtain ⟨A, c, rfl⟩ := rw_form h2.row
    rw [hl, hm] at h1 h2
    exact ⟨A, c, h1, Lib.hid ⟨ys, h2, h3⟩, h4⟩
/-- The last event of a log. -/
theorem log_last {w : World} {b : Nat} {A : Option Addr} {c n : Nat} {ys : List LY} {L : List LX} {kd : Int} {o : ObjD} {x : Value} (h : LogF w b (.slice A (n + 1) c) ys) (he : lyOf ys = lxOf (L ++ [(kd, (o, x))])) (hn : L.length = n) :
    ∃ g gx A2 c2, A = some ⟨g, 0, none⟩ ∧ EvAt w g (n * 11) kd o (.slice (some ⟨gx, 0, none⟩) o.charge.length o.charge.length) 0 (.slice A2 0 c2) ∧ ResF w b (.slice (some ⟨gx, 0, none⟩) o.charge.length o.charge.length) o.charge := by
  have hl := ly_len he
  rw [List.length_append, List.length_singleton, hn] at hl
  have hk : n < ys.length := by omega
  have hr := h.row
  obtain ⟨b1, off, c1, e1, hq⟩ := y_at (sliS_of hr) hk
  obtain ⟨g, cg, e2⟩ := rw_pos hr (by omega)
  obtain ⟨h3, h4⟩ := h.res _ (List.getElem_mem hk)
  have e4 : (lyOf ys)[n]? = some (kd, o) := by rw [he]; simp [lxOf, ← hn]
  have e5 : (lyOf ys)[n]? = some ((ys[n]'hk).1.1, (ys[n]'hk).1.2.1) := by simp [lyOf, hk]
  rw [e5] at e4
  generalize ys[n]'hk = p at hq h3 h4 e4
  obtain ⟨⟨kd', o', x'⟩, ov⟩ := p
  simp only [Option.some.injEq, Prod.mk.injEq] at e4
  obtain ⟨rfl, rfl⟩ := e4
  obtain ⟨gx, hgx⟩ := h3.form
  obtain ⟨A2, c2, hA2⟩ := h4.form
  simp only at hgx hA2 hq h3
  subst hgx; subst hA2
  rw [e2] at e1
  simp only [Value.slice.injEq, Option.some.injEq, Addr.mk.injEq] at e1 e2
  obtain ⟨⟨rfl, rfl, _⟩, _, _⟩ := e1
  rw [Nat.zero_add] at hq
  exact ⟨g, gx, A2, c2, e2.1, hq, h3⟩
theorem objsS_none (w : World) (A : Option Addr) (c : Nat) : ObjsS w (.slice A 0 c) [] := ⟨⟨rfl, A, c, rfl, Nat.zero_le _, .inl rfl⟩, by rintro p ⟨⟩⟩
/-- The snapshot may be. -/
theorem PInv.snap {M : AM KS OX} {n : Int} (h : PInv M n) (hn : 0 ≤ n) (hM : M.length ≤ 1000) : rightE ⟨2, zeroO, n, srtX kTO (M.map (·.2.1))⟩ = true := by
  unfold rightE
  rw [if_neg (show ¬ ((2 : Int) = 0) by decide), if_neg (show ¬ ((2 : Int) = 1) by decide), if_pos rfl]
  unfold relB
  rw [Bool.and_eq_true, Bool.and_eq_true, okL_iff]
  refine ⟨⟨⟨fun o ho => ?_, ?_⟩, decide_eq_true hn⟩, decide_eq_true (by rw [srtX_len, List.length_map]; exact hM)⟩
  · obtain ⟨q, hq, rfl⟩ := List.mem_map.1 (srtX_mem.1 ho)
    obtain ⟨_, _, h3, h4, _⟩ := h.2 q hq
    unfold relP
    rw [h3, decide_eq_true h4]; rfl
  · have hp : (M.map (·.2.1)).Perm (srtX kTO (M.map (·.2.1))) := stab_perm (Stab_symm (srtX_stab _))
    have n1 := (hp.map kTO).nodup_iff.1 h.texts
    rw [List.Nodup, List.pairwise_map] at n1
    exact ((srtX_srt (t := kTO) (M.map (·.2.1))).and n1).imp (fun {a b} q => by
      rcases ltB_total q.2 with r | r
      · exact r
      · rw [q.1] at r; cases r)
theorem snap_right {w : World} {b : Nat} {v : Value} {zs : List OX} {n : Int} {l : List ObjD} (hr : rightE ⟨2, zeroO, n, l⟩ = true) (hs : OSmall l) (hi : ∀ o ∈ l, oIn o) (hl : l.length ≤ 1000000) (hn : in64 n) (hz : ObjsF w b v zs) (he : oxs zs = l) :
    Calls Try.prog 21 #[evV 2 zeroO (.slice none 0 0) n v] w fun e w' => e = .returned (.bool true) ∧ Below w.heap.size w w' := by
  subst he
  have h := evright_calls w 2 n (zeroO_S w) zeroO_small (hz.objsS (fun p hp => hi _ (List.mem_map.2 ⟨p, hp, rfl⟩))) hs (by unfold in64; omega) (by rw [← oxs_len]; exact hl)
  rw [hr] at h
  exact h
end Go.Proofs.Ythhfcambdmdgfaa
namespace Go.Proofs.Ythhfcambdmdgfaa
open Go.RowKit Go.Maps Srt
set_option linter.unusedVariables false
set_option linter.unusedSimpArgs false
theorem act9_err {w : World} {base sp mb : Nat} {ver : Int} {M1 : Value → AM KS OX} {lv : Value} {L : List LX} {kd : Int} {o : ObjD} {er : Int} {vv er' : Int} {w' : World} (h : Act9 w base sp mb ver M1 lv L kd o er (.returned (.tuple #[.int .i64 vv, .int .i64 er'])) w') (he : er ≠ 0) : vv = 0 ∧ Below w.heap.size w w' := by
  obtain ⟨h1, h2⟩ := act9_no h he
  simp only [Ending.returned.injEq, Value.tuple.injEq, Array.mk.injEq, List.cons.injEq, Value.int.injEq, true_and, and_true] at h1
  exact ⟨h1.1, h2⟩
theorem act9_did {w : World} {base sp mb : Nat} {ver : Int} {M1 : Value → AM KS OX} {lv : Value} {L : List LX} {kd : Int} {o : ObjD} {er : Int} {vv er' : Int} {w' : World} (h : Act9 w base sp mb ver M1 lv L kd o er (.returned (.tuple #[.int .i64 vv, .int .i64 er'])) w') (he : er = 0) :
    vv = ver + 1 ∧ ∃ lv' x y, StoreAt w' base sp mb (ver + 1) (M1 y) lv' (L ++ [(kd, ({ o with ver := ver + 1 }, x))]) ∧ Kept (fun b => b = sp ∨ b = mb ∨ lv.ownBlock = some b) w w' := by
  rcases h with ⟨h1, _⟩ | ⟨_, lv', x, y, h2, h3, h4⟩
  · exact absurd he h1
  · simp only [Ending.returned.injEq, Value.tuple.injEq, Array.mk.injEq, List.cons.injEq, Value.int.injEq, true_and, and_true] at h2
    exact ⟨h2.1, lv', x, y, h3, h4⟩
def HoldsS (w : World) (base sp mb : Nat) (n k : Nat) (M : AM KS OX) (lv : Value) (L : List LX) : Prop := StoreAt w base sp mb n M lv L ∧ PInv M n ∧ L.length = n ∧ n ≤ k ∧ M.length ≤ n ∧ ∀ e ∈ L, objSmall e.2.1
set_option maxRecDepth 100000 in
set_option maxHeartbeats 16000000 in
theorem storeRises_law (w : World) {ol : Value} {xs : List WX} (hx : WrS w ol xs) :
    Calls Try.prog 6 #[ol] w fun e w' => e = .returned (.bool true) ∧ Below w.heap.size w w' := by
  have HX := Lib.hid hx
  obtain ⟨al, cl, rfl⟩ := hx.form
  have HFA := Lib.hid (fits9_calls w hx)
  clear hx
  have hB := Below.refl w.heap.size w
  go_enter Try.func6, Try.ntmps6
  go_upto_region 2 with (go_at_call 26; ((with_reducible refine HFA.out.mono ?_); rintro e w' ⟨f1, rfl, hf1, hb⟩; have HF1 := Lib.hid hf1; clear hf1; have hB := bl_next hB hb; clear hb))
  cases f1 with
  | false =>
    go_wp2_with (go_at_call 27; refine (alive9_calls _).mono ?_; rintro e w' ⟨rfl, hb⟩; have hB := bl_next hB hb; clear hb)
    go_ret
    exact ⟨rfl, hB⟩
  | true =>
  obtain ⟨hsm, hl60⟩ := HF1.out rfl
  have HSM := Lib.hid hsm
  clear HF1 HFA hsm
  obtain ⟨W, rfl⟩ : ∃ U : World, U = w' := ⟨_, rfl⟩
  have HXW := Lib.hid (HX.out.below hB)
  have HB0 := Lib.hid hB
  clear hB HX
  go_wp2_with (go_at_call 28; refine (snew_calls _).mono ?_; rintro e w1 ⟨sp, mb, rfl, hst, hb⟩; have H1 := Lib.hid hst; have HB1 := Lib.hid hb; clear hst hb)
  have HH1 := Lib.hid (show HoldsS w1 W.heap.size sp mb 0 0 [] (.slice none 0 0) [] from ⟨H1.out, PInv.nil, rfl, Nat.le_refl _, Nat.le_refl _, by rintro e ⟨⟩⟩)
  clear H1
  go_loopw [5, 6] (fun s5 s6 wr => ∃ (k n : Nat) (M : AM KS OX) (lv : Value) (L : List LX), s6 = .int .i64 (k : Int) ∧ s5 = .int .i64 (n : Int) ∧ k ≤ xs.length ∧ Hid (HoldsS wr W.heap.size sp mb n k M lv L) ∧ Hid (Below W.heap.size W wr)) (fun _ s6 _ => xs.length - (intOf s6).toNat)
  case atStart => exact ⟨0, 0, [], _, [], rfl, rfl, Nat.zero_le _, HH1, HB1⟩
  case round =>
    clear HH1 HB1
    obtain ⟨k, n, M, lv, L, rfl, rfl, hk, HH, HBr⟩ := hrel
    have hnk := HH.out.2.2.2.1
    by_cases hkl : k < xs.length
    · have hkI : (k : Int) < xs.length := by omega
      obtain ⟨b, of, c9, he, q, s⟩ := HXW.out.at' hkl
      cases he
      have hsmo := HSM.out _ (List.getElem_mem hkl)
      generalize xs[k]'hkl = x at q s hsmo
      obtain ⟨gone, o, so⟩ := x
      simp only at s hsmo
      obtain ⟨ao, co, rfl⟩ := s.1.form
      have QX := Lib.hid q
      have q := q.below HBr.out
      have d0 := q.c0
      have d1 := q.c1
      have d2 := q.c2
      have d3 := q.c3
      have d4 := q.c4
      have d5 := q.c5
      have d6 := q.c6
      have d7 := q.c7
      have d8 := q.c8
      obtain ⟨V, rfl⟩ : ∃ U : World, U = wr := ⟨_, rfl⟩
      have HSO := Lib.hid hsmo
      obtain ⟨K, hK⟩ : ∃ K : KS, K.1 = o.key := ⟨⟨o.key, hsmo.1⟩, rfl⟩
      have HK := Lib.hid hK
      have HDO := Lib.hid (do_calls V HH.out.1 gone (k := K) (sl := .slice ao o.charge.length co) hK (fun U hU => s.below (HBr.out.trans (StoreAt.keptB HH.out.1 hU HBr.out.size))) hsmo (by omega) (by have := HH.out.2.2.2.2.1; omega) (by have := HH.out.2.2.1; omega))
      have HHK := Lib.hid (fun (U : World) (hb : Below V.heap.size V U) => And.intro (HH.out.1.below hb) HH.out.2)
      clear q s hK hsmo
      obtain ⟨er, her⟩ : ∃ e, wErr M K gone o = e := ⟨_, rfl⟩
      rw [her] at HDO
      have HER := Lib.hid her
      clear her
      go_upto_region 10 with (go_at_call 29; refine HDO.out.mono ?_; intro e w1 hA; obtain ⟨vv, rfl, hA2⟩ := act9_form hA; have HA := Lib.hid hA2; clear hA hA2)
      clear HDO d0 d1 d2 d3 d4 d5 d6 d7 d8
      by_cases he : er = 0
      · subst he
        obtain ⟨hvv, lv', x, y, hst, hkp⟩ := act9_did HA.out rfl
        subst hvv
        have HAI := Lib.hid (act_is y HH.out.2.1 HK.out HSO.out (by omega) HER.out)
        have HS1 := Lib.hid hst
        have HBw := Lib.hid (HBr.out.trans (StoreAt.keptB HH.out.1 hkp HBr.out.size))
        have HLN := Lib.hid HH.out.2.2.1
        have HSL := Lib.hid (show ∀ e ∈ L ++ [(wKind gone, ({ wObj gone o with ver := (n : Int) + 1 }, x))], objSmall e.2.1 from fun e he => by
          rcases List.mem_append.1 he with r | r
          · exact HH.out.2.2.2.2.2 e r
          · obtain rfl := List.mem_singleton.1 r; exact (show objSmall _ from HAI.out.small))
        have HML := Lib.hid HH.out.2.2.2.2.1
        generalize hM1 : wMap M K gone o n y = M1 at HS1 HAI
        clear hst hkp HA HH HHK hM1
        have HSM3 := Lib.hid HAI.out.small; have hkey := HAI.out.key; have HRT := Lib.hid HAI.out.right; have HPV := Lib.hid HAI.out.inv; have HHAS := Lib.hid HAI.out.has; have HOBJ := Lib.hid HAI.out.obj; have HLEN := Lib.hid HAI.out.len
        clear HAI
        obtain ⟨oo, hoo⟩ : ∃ z, wObj gone o = z := ⟨_, rfl⟩
        rw [hoo] at HS1 HSL HSM3 hkey HRT
        clear hoo
        obtain ⟨ok, ov, oc, ot, ob, och⟩ := oo
        simp only at hkey
        subst hkey
        have HLG := Lib.hid (slogN_calls w1 (m := n + 1) HS1.out HSL.out (by rw [List.length_append, HLN.out, List.length_singleton]; omega) (by rw [List.length_append, HLN.out]; rfl))
        go_upto_region 13 with (go_at_call 38; refine HLG.out.mono ?_; rintro e w2 ⟨A, c, rfl, HL, hb⟩; have HS2 := Lib.hid (HS1.out.below hb); have HB2 := Lib.hid (bl_next HBw.out hb); clear hb)
        obtain ⟨ys, hl1, hl2⟩ := HL.out
        obtain ⟨g, gx, A2, c2, rfl, hq, hrf⟩ := log_last hl1 hl2 HLN.out
        have HEV := Lib.hid hq
        have HRF := Lib.hid hrf
        clear hl1 hl2 hq hrf HL HLG HS1
        have HEVB := Lib.hid (fun (U : World) (hb : Below w2.heap.size w2 U) => HEV.out.below hb)
        go_upto_region 17 with (go_at_call 36; refine (sversion_calls _ HS2.out).mono ?_; rintro e w3 ⟨rfl, hb⟩; have q := HEVB.out _ hb; have l0 := q.c0; have l1 := q.c1; have l2 := q.c2; have l3 := q.c3; have l4 := q.c4; have l5 := q.c5; have l6 := q.c6; have l7 := q.c7; have l8 := q.c8; have l9 := q.c9; have l10 := q.c10; clear q; have HS3 := Lib.hid (HS2.out.below hb); have HB3 := Lib.hid (bl_next HB2.out hb); have HRF3 := Lib.hid (HRF.out.below hb); clear hb)
        have HRV := Lib.hid (show ObjS w3 (.slice (some ⟨gx, 0, none⟩) och.length och.length) ⟨o.key, (n : Int) + 1, oc, ot, ob, och⟩ from ⟨HRF3.out.resS (HS3.out.resL _ (List.mem_append_right _ List.mem_cons_self)).2.2, (show in64 ((n : Int) + 1) by unfold in64; omega)⟩)
        first | with_reducible refine name_wp ?_ | with_reducible refine name_calls ?_
        intro U hU
        have gE : U.heap[w3.heap.size]? = some (.cells #[.int .i64 (wKind gone), .string o.key.kind, .string o.key.space, .string o.key.name, .int .i64 ((n : Int) + 1), .string oc, .bool ot, .bool ob, .slice (some ⟨gx, 0, none⟩) och.length och.length, .int .i64 0, .slice A2 0 c2] 30) := by rw [hU]; exact blk_new w3 _
        have hbU : Below w3.heap.size w3 U := by rw [hU]; exact (Below.refl _ _).alloc (Nat.le_refl _) _
        clear hU
        have HGE := Lib.hid gE
        have HSU := Lib.hid (HS3.out.below hbU)
        have HBU := Lib.hid (bl_next HB3.out hbU)
        have HRU := Lib.hid (HRV.out.below hbU)
        have QU := Lib.hid (QX.out.below HBU.out)
        clear l0 l1 l2 l3 l4 l5 l6 l7 l8 l9 l10 gE hbU HS3 HB3 HRV HRF3 HRF HEV HEVB HS2 HB2 q
        have HGT := Lib.hid (sget_calls U HSU.out (fun q hq => (HPV.out.2 q hq).2.2.2.2) K)
        rw [HK.out, HHAS.out] at HGT
        obtain ⟨ox, hox⟩ : ∃ z, objOf M1 K = z := ⟨_, rfl⟩
        rw [hox] at HGT HOBJ
        clear hox
        have d1 := QU.out.c1
        have d2 := QU.out.c2
        have d3 := QU.out.c3
        go_upto_region 18 with (go_at_call 32; refine HGT.out.mono ?_; rintro e w4 ⟨x4, rfl, hrf4, hb⟩; obtain ⟨g4, rfl⟩ := hrf4.form; have HB4 := Lib.hid hb; clear hb hrf4; unfold objV)
        first | with_reducible refine name_wp ?_ | with_reducible refine name_calls ?_
        intro Z hZ
        have gO : Z.heap[w4.heap.size]? = some (.cells #[.string ox.key.kind, .string ox.key.space, .string ox.key.name, .int .i64 ox.ver, .string ox.cls, .bool ox.term, .bool ox.best, .slice (some ⟨g4, 0, none⟩) ox.charge.length ox.charge.length] 27) := by rw [hZ]; exact blk_new w4 _
        have hbZ : Below w4.heap.size w4 Z := by rw [hZ]; exact (Below.refl _ _).alloc (Nat.le_refl _) _
        clear hZ d1 d2 d3
        have hbZ := bl_next HB4.out hbZ
        have o3 : Z.cell? ⟨w4.heap.size, 3, none⟩ = some (.int .i64 ox.ver) := blk_cell gO 3
        have gE := blk_below HGE.out hbZ
        have e0 : Z.cell? ⟨w3.heap.size, 0, none⟩ = some (.int .i64 (wKind gone)) := blk_cell gE 0
        have e1 : Z.cell? ⟨w3.heap.size, 1, none⟩ = some (.string o.key.kind) := blk_cell gE 1
        have e2 : Z.cell? ⟨w3.heap.size, 2, none⟩ = some (.string o.key.space) := blk_cell gE 2
        have e3 : Z.cell? ⟨w3.heap.size, 3, none⟩ = some (.string o.key.name) := blk_cell gE 3
        have e4 : Z.cell? ⟨w3.heap.size, 4, none⟩ = some (.int .i64 ((n : Int) + 1)) := blk_cell gE 4
        have e5 : Z.cell? ⟨w3.heap.size, 5, none⟩ = some (.string oc) := blk_cell gE 5
        have e6 : Z.cell? ⟨w3.heap.size, 6, none⟩ = some (.bool ot) := blk_cell gE 6
        have e7 : Z.cell? ⟨w3.heap.size, 7, none⟩ = some (.bool ob) := blk_cell gE 7
        have e8 : Z.cell? ⟨w3.heap.size, 8, none⟩ = some (.slice (some ⟨gx, 0, none⟩) och.length och.length) := blk_cell gE 8
        have e9 : Z.cell? ⟨w3.heap.size, 9, none⟩ = some (.int .i64 0) := blk_cell gE 9
        have e10 : Z.cell? ⟨w3.heap.size, 10, none⟩ = some (.slice A2 0 c2) := blk_cell gE 10
        have QZ := Lib.hid (QU.out.below hbZ)
        have HSZ := Lib.hid (show HoldsS Z W.heap.size sp mb (n + 1) (k + 1) M1 lv' (L ++ [(wKind gone, (⟨o.key, (n : Int) + 1, oc, ot, ob, och⟩, x))]) from ⟨by have h := HSU.out.below hbZ; simpa using h, by have h := HPV.out; simpa using h, by rw [List.length_append, HLN.out]; rfl, by omega, by have h1 := HLEN.out; have h2 := HML.out; omega, HSL.out⟩)
        have HRZ := Lib.hid (HRU.out.below hbZ)
        have HBZ := Lib.hid (bl_next HBU.out hbZ)
        have HRI := Lib.hid (fun (X : World) (hb : Below Z.heap.size Z X) => evright_calls X (wKind gone) 0 (HRZ.out.below hb) HSM3.out (objsS_none X A2 c2) (by rintro p ⟨⟩) (show in64 (wKind gone) by unfold in64 wKind; split <;> omega) (by simp))
        rw [show oxs ([] : List OX) = [] from rfl, HRT.out] at HRI
        unfold evV at HRI
        clear gE gO hbZ HSU HBU HRU QU HGE HGT HB4
        have hB := Below.refl Z.heap.size Z
        cases gone with
        | true =>
          have hB := hB.drew
          refine region_seq (fun w' => Below Z.heap.size Z w') [(0, true), (1, true), (2, true), (3, true), (4, true), (5, true), (6, true), (7, false), (8, true), (9, true), (10, true), (11, true), (12, true), (13, true), (14, true), (15, true), (16, true), (17, true), (18, true), (19, true), (20, true), (21, true), (22, true), (23, true), (24, true), (25, true), (26, true), (27, true), (28, true), (29, true), (30, true), (31, true), (32, true), (33, true), (34, true), (35, true), (36, true), (37, true), (38, true), (39, true), (40, true), (41, true), (42, true), (43, true), (44, true), (45, true), (46, true), (47, true), (48, true), (49, true), (50, true)] (by kernel_rfl) (by kernel_rfl) (fun _ _ _ _ h => h) hB ?_
          try generalize World.drew _ = wS at hB ⊢
          refine seq_take (v := ?_) (a' := ?_) (some 86) rfl rfl (by rfl) ?_ ?_ ?_
          rotate_left; rotate_left
          · intro w' hS; go_simp; with_reducible rfl
          · simp only [Act.put, List.setIfInBounds_toArray, List.set_cons_zero, List.set_cons_succ]; rfl
          refine seq_take (v := ?_) (a' := ?_) (some 87) rfl rfl (by rfl) ?_ ?_ ?_
          rotate_left; rotate_left
          · intro w' hS; go_simp; with_reducible rfl
          · simp only [Act.put, List.setIfInBounds_toArray, List.set_cons_zero, List.set_cons_succ]; rfl
          refine seq_take (v := ?_) (a' := ?_) (some 88) rfl rfl (by rfl) ?_ ?_ ?_
          rotate_left; rotate_left
          · intro w' hS; have z0 := cb hS e0; have z1 := cb hS e1; have z2 := cb hS e2; have z3 := cb hS e3; have z4 := cb hS e4; have z5 := cb hS e5; have z6 := cb hS e6; have z7 := cb hS e7; have z8 := cb hS e8; have z9 := cb hS e9; have z10 := cb hS e10; have o3 := cb hS o3; have qz := QZ.out.below hS; have q0 := qz.c0; have q1 := qz.c1; have q2 := qz.c2; have q3 := qz.c3; have q4 := qz.c4; have q5 := qz.c5; have q6 := qz.c6; have q7 := qz.c7; have q8 := qz.c8; simp only at q0 q1 q2 q3; go_simp; with_reducible rfl
          · simp only [Act.put, List.setIfInBounds_toArray, List.set_cons_zero, List.set_cons_succ]; rfl
          refine seq_take (v := ?_) (a' := ?_) (some 89) rfl rfl (by rfl) ?_ ?_ ?_
          rotate_left; rotate_left
          · intro w' hS; go_simp; with_reducible rfl
          · simp only [Act.put, List.setIfInBounds_toArray, List.set_cons_zero, List.set_cons_succ]; rfl
          refine seq_take (v := ?_) (a' := ?_) (some 90) rfl rfl (by rfl) ?_ ?_ ?_
          rotate_left; rotate_left
          · intro w' hS; go_simp; with_reducible rfl
          · simp only [Act.put, List.setIfInBounds_toArray, List.set_cons_zero, List.set_cons_succ]; rfl
          refine seq_take (v := ?_) (a' := ?_) (some 91) rfl rfl (by rfl) ?_ ?_ ?_
          rotate_left; rotate_left
          · intro w' hS; go_simp; with_reducible rfl
          · simp only [Act.put, List.setIfInBounds_toArray, List.set_cons_zero, List.set_cons_succ]; rfl
          refine seq_take (v := ?_) (a' := ?_) (some 92) rfl rfl (by rfl) ?_ ?_ ?_
          rotate_left; rotate_left
          · intro w' hS; have z0 := cb hS e0; have z1 := cb hS e1; have z2 := cb hS e2; have z3 := cb hS e3; have z4 := cb hS e4; have z5 := cb hS e5; have z6 := cb hS e6; have z7 := cb hS e7; have z8 := cb hS e8; have z9 := cb hS e9; have z10 := cb hS e10; have o3 := cb hS o3; have qz := QZ.out.below hS; have q0 := qz.c0; have q1 := qz.c1; have q2 := qz.c2; have q3 := qz.c3; have q4 := qz.c4; have q5 := qz.c5; have q6 := qz.c6; have q7 := qz.c7; have q8 := qz.c8; simp only at q0 q1 q2 q3; go_simp; with_reducible rfl
          · simp only [Act.put, List.setIfInBounds_toArray, List.set_cons_zero, List.set_cons_succ]; rfl
          refine seq_call (args := ?_) Try.func21 (by kernel_rfl) rfl (some 93) rfl rfl (by rfl) rfl ?_ ?_
          rotate_left
          · simp only [List.map_toArray, List.map_cons, List.map_nil]; go_simp; rfl
          with_reducible refine (HRI.out _ hB).mono ?_
          rintro e w' ⟨rfl, hb⟩
          refine ⟨_, rfl, bl_next (by repeat (first | with_reducible exact hB | refine Below.alloc ?_ (by have := hB.size; simp; omega) _ | refine bl_dN ?_ _ | refine Below.drew ?_ | refine Below.setCell ?_ (by have := hB.size; simp; omega) _)) hb, ?_⟩
          have hB := bl_next (by repeat (first | with_reducible exact hB | refine Below.alloc ?_ (by have := hB.size; simp; omega) _ | refine bl_dN ?_ _ | refine Below.drew ?_ | refine Below.setCell ?_ (by have := hB.size; simp; omega) _)) hb; clear hb
          simp only [Act.put, List.setIfInBounds_toArray, List.set_cons_zero, List.set_cons_succ]
          refine seq_take (v := ?_) (a' := ?_) (some 94) rfl rfl (by rfl) ?_ ?_ ?_
          rotate_left; rotate_left
          · intro w' hS; go_simp; with_reducible rfl
          · simp only [Act.put, List.setIfInBounds_toArray, List.set_cons_zero, List.set_cons_succ]; rfl
          refine seq_take (v := ?_) (a' := ?_) (some 95) rfl rfl (by rfl) ?_ ?_ ?_
          rotate_left; rotate_left
          · intro w' hS; go_simp; with_reducible rfl
          · simp only [Act.put, List.setIfInBounds_toArray, List.set_cons_zero, List.set_cons_succ]; rfl
          refine seq_take (v := ?_) (a' := ?_) (some 96) rfl rfl (by rfl) ?_ ?_ ?_
          rotate_left; rotate_left
          · intro w' hS; go_simp; with_reducible rfl
          · simp only [Act.put, List.setIfInBounds_toArray, List.set_cons_zero, List.set_cons_succ]; rfl
          refine seq_take (v := ?_) (a' := ?_) (some 97) rfl rfl (by rfl) ?_ ?_ ?_
          rotate_left; rotate_left
          · intro w' hS; go_simp; with_reducible rfl
          · simp only [Act.put, List.setIfInBounds_toArray, List.set_cons_zero, List.set_cons_succ]; rfl
          refine seq_take (v := ?_) (a' := ?_) (some 98) rfl rfl (by rfl) ?_ ?_ ?_
          rotate_left; rotate_left
          · intro w' hS; go_simp; with_reducible rfl
          · simp only [Act.put, List.setIfInBounds_toArray, List.set_cons_zero, List.set_cons_succ]; rfl
          refine seq_take (v := ?_) (a' := ?_) (some 99) rfl rfl (by rfl) ?_ ?_ ?_
          rotate_left; rotate_left
          · intro w' hS; have z0 := cb hS e0; have z1 := cb hS e1; have z2 := cb hS e2; have z3 := cb hS e3; have z4 := cb hS e4; have z5 := cb hS e5; have z6 := cb hS e6; have z7 := cb hS e7; have z8 := cb hS e8; have z9 := cb hS e9; have z10 := cb hS e10; have o3 := cb hS o3; have qz := QZ.out.below hS; have q0 := qz.c0; have q1 := qz.c1; have q2 := qz.c2; have q3 := qz.c3; have q4 := qz.c4; have q5 := qz.c5; have q6 := qz.c6; have q7 := qz.c7; have q8 := qz.c8; simp only at q0 q1 q2 q3; go_simp; with_reducible rfl
          · simp only [Act.put, List.setIfInBounds_toArray, List.set_cons_zero, List.set_cons_succ]; rfl
          refine seq_take (v := ?_) (a' := ?_) (some 100) rfl rfl (by rfl) ?_ ?_ ?_
          rotate_left; rotate_left
          · intro w' hS; go_simp; with_reducible rfl
          · simp only [Act.put, List.setIfInBounds_toArray, List.set_cons_zero, List.set_cons_succ]; rfl
          refine seq_take (v := ?_) (a' := ?_) (some 101) rfl rfl (by rfl) ?_ ?_ ?_
          rotate_left; rotate_left
          · intro w' hS; go_simp; with_reducible rfl
          · simp only [Act.put, List.setIfInBounds_toArray, List.set_cons_zero, List.set_cons_succ]; rfl
          refine seq_take (v := ?_) (a' := ?_) (some 102) rfl rfl (by rfl) ?_ ?_ ?_
          rotate_left; rotate_left
          · intro w' hS; go_simp; with_reducible rfl
          · simp only [Act.put, List.setIfInBounds_toArray, List.set_cons_zero, List.set_cons_succ]; rfl
          refine seq_take (v := ?_) (a' := ?_) (some 103) rfl rfl (by rfl) ?_ ?_ ?_
          rotate_left; rotate_left
          · intro w' hS; go_simp; with_reducible rfl
          · simp only [Act.put, List.setIfInBounds_toArray, List.set_cons_zero, List.set_cons_succ]; rfl
          refine seq_take (v := ?_) (a' := ?_) (some 104) rfl rfl (by rfl) ?_ ?_ ?_
          rotate_left; rotate_left
          · intro w' hS; go_simp; with_reducible rfl
          · simp only [Act.put, List.setIfInBounds_toArray, List.set_cons_zero, List.set_cons_succ]; rfl
          refine seq_take (v := ?_) (a' := ?_) (some 105) rfl rfl (by rfl) ?_ ?_ ?_
          rotate_left; rotate_left
          · intro w' hS; have z0 := cb hS e0; have z1 := cb hS e1; have z2 := cb hS e2; have z3 := cb hS e3; have z4 := cb hS e4; have z5 := cb hS e5; have z6 := cb hS e6; have z7 := cb hS e7; have z8 := cb hS e8; have z9 := cb hS e9; have z10 := cb hS e10; have o3 := cb hS o3; have qz := QZ.out.below hS; have q0 := qz.c0; have q1 := qz.c1; have q2 := qz.c2; have q3 := qz.c3; have q4 := qz.c4; have q5 := qz.c5; have q6 := qz.c6; have q7 := qz.c7; have q8 := qz.c8; simp only at q0 q1 q2 q3; go_simp; with_reducible rfl
          · simp only [Act.put, List.setIfInBounds_toArray, List.set_cons_zero, List.set_cons_succ]; rfl
          refine seq_take (v := ?_) (a' := ?_) (some 106) rfl rfl (by rfl) ?_ ?_ ?_
          rotate_left; rotate_left
          · intro w' hS; go_simp; with_reducible rfl
          · simp only [Act.put, List.setIfInBounds_toArray, List.set_cons_zero, List.set_cons_succ]; rfl
          refine seq_take (v := ?_) (a' := ?_) (some 107) rfl rfl (by rfl) ?_ ?_ ?_
          rotate_left; rotate_left
          · intro w' hS; go_simp; with_reducible rfl
          · simp only [Act.put, List.setIfInBounds_toArray, List.set_cons_zero, List.set_cons_succ]; rfl
          refine seq_take (v := ?_) (a' := ?_) (some 108) rfl rfl (by rfl) ?_ ?_ ?_
          rotate_left; rotate_left
          · intro w' hS; go_simp; with_reducible rfl
          · simp only [Act.put, List.setIfInBounds_toArray, List.set_cons_zero, List.set_cons_succ]; rfl
          refine seq_take (v := ?_) (a' := ?_) (some 109) rfl rfl (by rfl) ?_ ?_ ?_
          rotate_left; rotate_left
          · intro w' hS; go_simp; with_reducible rfl
          · simp only [Act.put, List.setIfInBounds_toArray, List.set_cons_zero, List.set_cons_succ]; rfl
          refine seq_take (v := ?_) (a' := ?_) (some 110) rfl rfl (by rfl) ?_ ?_ ?_
          rotate_left; rotate_left
          · intro w' hS; have z0 := cb hS e0; have z1 := cb hS e1; have z2 := cb hS e2; have z3 := cb hS e3; have z4 := cb hS e4; have z5 := cb hS e5; have z6 := cb hS e6; have z7 := cb hS e7; have z8 := cb hS e8; have z9 := cb hS e9; have z10 := cb hS e10; have o3 := cb hS o3; have qz := QZ.out.below hS; have q0 := qz.c0; have q1 := qz.c1; have q2 := qz.c2; have q3 := qz.c3; have q4 := qz.c4; have q5 := qz.c5; have q6 := qz.c6; have q7 := qz.c7; have q8 := qz.c8; simp only at q0 q1 q2 q3; go_simp; with_reducible rfl
          · simp only [Act.put, List.setIfInBounds_toArray, List.set_cons_zero, List.set_cons_succ]; rfl
          refine seq_take (v := ?_) (a' := ?_) (some 111) rfl rfl (by rfl) ?_ ?_ ?_
          rotate_left; rotate_left
          · intro w' hS; go_simp; with_reducible rfl
          · simp only [Act.put, List.setIfInBounds_toArray, List.set_cons_zero, List.set_cons_succ]; rfl
          refine seq_take (v := ?_) (a' := ?_) (some 112) rfl rfl (by rfl) ?_ ?_ ?_
          rotate_left; rotate_left
          · intro w' hS; go_simp; with_reducible rfl
          · simp only [Act.put, List.setIfInBounds_toArray, List.set_cons_zero, List.set_cons_succ]; rfl
          refine seq_take (v := ?_) (a' := ?_) (some 113) rfl rfl (by rfl) ?_ ?_ ?_
          rotate_left; rotate_left
          · intro w' hS; go_simp; with_reducible rfl
          · simp only [Act.put, List.setIfInBounds_toArray, List.set_cons_zero, List.set_cons_succ]; rfl
          refine seq_take (v := ?_) (a' := ?_) (some 114) rfl rfl (by rfl) ?_ ?_ ?_
          rotate_left; rotate_left
          · intro w' hS; go_simp; with_reducible rfl
          · simp only [Act.put, List.setIfInBounds_toArray, List.set_cons_zero, List.set_cons_succ]; rfl
          refine seq_take (v := ?_) (a' := ?_) (some 115) rfl rfl (by rfl) ?_ ?_ ?_
          rotate_left; rotate_left
          · intro w' hS; go_simp; with_reducible rfl
          · simp only [Act.put, List.setIfInBounds_toArray, List.set_cons_zero, List.set_cons_succ]; rfl
          refine seq_take (v := ?_) (a' := ?_) (some 116) rfl rfl (by rfl) ?_ ?_ ?_
          rotate_left; rotate_left
          · intro w' hS; have z0 := cb hS e0; have z1 := cb hS e1; have z2 := cb hS e2; have z3 := cb hS e3; have z4 := cb hS e4; have z5 := cb hS e5; have z6 := cb hS e6; have z7 := cb hS e7; have z8 := cb hS e8; have z9 := cb hS e9; have z10 := cb hS e10; have o3 := cb hS o3; have qz := QZ.out.below hS; have q0 := qz.c0; have q1 := qz.c1; have q2 := qz.c2; have q3 := qz.c3; have q4 := qz.c4; have q5 := qz.c5; have q6 := qz.c6; have q7 := qz.c7; have q8 := qz.c8; simp only at q0 q1 q2 q3; go_simp; with_reducible rfl
          · simp only [Act.put, List.setIfInBounds_toArray, List.set_cons_zero, List.set_cons_succ]; rfl
          refine seq_take (v := ?_) (a' := ?_) (some 117) rfl rfl (by rfl) ?_ ?_ ?_
          rotate_left; rotate_left
          · intro w' hS; go_simp; with_reducible rfl
          · simp only [Act.put, List.setIfInBounds_toArray, List.set_cons_zero, List.set_cons_succ]; rfl
          refine seq_take (v := ?_) (a' := ?_) (some 118) rfl rfl (by rfl) ?_ ?_ ?_
          rotate_left; rotate_left
          · intro w' hS; go_simp; with_reducible rfl
          · simp only [Act.put, List.setIfInBounds_toArray, List.set_cons_zero, List.set_cons_succ]; rfl
          refine seq_take (v := ?_) (a' := ?_) (some 119) rfl rfl (by rfl) ?_ ?_ ?_
          rotate_left; rotate_left
          · intro w' hS; go_simp; with_reducible rfl
          · simp only [Act.put, List.setIfInBounds_toArray, List.set_cons_zero, List.set_cons_succ]; rfl
          refine seq_take (v := ?_) (a' := ?_) (some 120) rfl rfl (by rfl) ?_ ?_ ?_
          rotate_left; rotate_left
          · intro w' hS; go_simp; with_reducible rfl
          · simp only [Act.put, List.setIfInBounds_toArray, List.set_cons_zero, List.set_cons_succ]; rfl
          refine seq_take (v := ?_) (a' := ?_) (some 121) rfl rfl (by rfl) ?_ ?_ ?_
          rotate_left; rotate_left
          · intro w' hS; go_simp; with_reducible rfl
          · simp only [Act.put, List.setIfInBounds_toArray, List.set_cons_zero, List.set_cons_succ]; rfl
          refine seq_take (v := ?_) (a' := ?_) (some 122) rfl rfl (by rfl) ?_ ?_ ?_
          rotate_left; rotate_left
          · intro w' hS; go_simp; with_reducible rfl
          · simp only [Act.put, List.setIfInBounds_toArray, List.set_cons_zero, List.set_cons_succ]; rfl
          refine seq_take (v := ?_) (a' := ?_) (some 123) rfl rfl (by rfl) ?_ ?_ ?_
          rotate_left; rotate_left
          · intro w' hS; go_simp; with_reducible rfl
          · simp only [Act.put, List.setIfInBounds_toArray, List.set_cons_zero, List.set_cons_succ]; rfl
          refine seq_take (v := ?_) (a' := ?_) (some 124) rfl rfl (by rfl) ?_ ?_ ?_
          rotate_left; rotate_left
          · intro w' hS; go_simp; with_reducible rfl
          · simp only [Act.put, List.setIfInBounds_toArray, List.set_cons_zero, List.set_cons_succ]; rfl
          refine seq_take (v := ?_) (a' := ?_) (some 125) rfl rfl (by rfl) ?_ ?_ ?_
          rotate_left; rotate_left
          · intro w' hS; have z0 := cb hS e0; have z1 := cb hS e1; have z2 := cb hS e2; have z3 := cb hS e3; have z4 := cb hS e4; have z5 := cb hS e5; have z6 := cb hS e6; have z7 := cb hS e7; have z8 := cb hS e8; have z9 := cb hS e9; have z10 := cb hS e10; have o3 := cb hS o3; have qz := QZ.out.below hS; have q0 := qz.c0; have q1 := qz.c1; have q2 := qz.c2; have q3 := qz.c3; have q4 := qz.c4; have q5 := qz.c5; have q6 := qz.c6; have q7 := qz.c7; have q8 := qz.c8; simp only at q0 q1 q2 q3; go_simp; with_reducible rfl
          · simp only [Act.put, List.setIfInBounds_toArray, List.set_cons_zero, List.set_cons_succ]; rfl
          refine seq_take (v := ?_) (a' := ?_) (some 126) rfl rfl (by rfl) ?_ ?_ ?_
          rotate_left; rotate_left
          · intro w' hS; go_simp; with_reducible rfl
          · simp only [Act.put, List.setIfInBounds_toArray, List.set_cons_zero, List.set_cons_succ]; rfl
          refine seq_take (v := ?_) (a' := ?_) (some 127) rfl rfl (by rfl) ?_ ?_ ?_
          rotate_left; rotate_left
          · intro w' hS; go_simp; with_reducible rfl
          · simp only [Act.put, List.setIfInBounds_toArray, List.set_cons_zero, List.set_cons_succ]; rfl
          refine seq_take (v := ?_) (a' := ?_) (some 128) rfl rfl (by rfl) ?_ ?_ ?_
          rotate_left; rotate_left
          · intro w' hS; go_simp; with_reducible rfl
          · simp only [Act.put, List.setIfInBounds_toArray, List.set_cons_zero, List.set_cons_succ]; rfl
          refine seq_take (v := ?_) (a' := ?_) (some 129) rfl rfl (by rfl) ?_ ?_ ?_
          rotate_left; rotate_left
          · intro w' hS; go_simp; with_reducible rfl
          · simp only [Act.put, List.setIfInBounds_toArray, List.set_cons_zero, List.set_cons_succ]; rfl
          refine seq_take (v := ?_) (a' := ?_) (some 130) rfl rfl (by rfl) ?_ ?_ ?_
          rotate_left; rotate_left
          · intro w' hS; go_simp; with_reducible rfl
          · simp only [Act.put, List.setIfInBounds_toArray, List.set_cons_zero, List.set_cons_succ]; rfl
          refine seq_skip (a' := ?_) (some 131) rfl rfl (by rfl) ?_ ?_
          rotate_left
          · simp only [Act.put, List.setIfInBounds_toArray, List.set_cons_zero, List.set_cons_succ]; rfl
          refine seq_skip (a' := ?_) (some 132) rfl rfl (by rfl) ?_ ?_
          rotate_left
          · simp only [Act.put, List.setIfInBounds_toArray, List.set_cons_zero, List.set_cons_succ]; rfl
          refine seq_skip (a' := ?_) (some 133) rfl rfl (by rfl) ?_ ?_
          rotate_left
          · simp only [Act.put, List.setIfInBounds_toArray, List.set_cons_zero, List.set_cons_succ]; rfl
          refine seq_skip (a' := ?_) (some 134) rfl rfl (by rfl) ?_ ?_
          rotate_left
          · simp only [Act.put, List.setIfInBounds_toArray, List.set_cons_zero, List.set_cons_succ]; rfl
          refine seq_take (v := ?_) (a' := ?_) (some 135) rfl rfl (by rfl) ?_ ?_ ?_
          rotate_left; rotate_left
          · intro w' hS; go_simp; with_reducible rfl
          · simp only [Act.put, List.setIfInBounds_toArray, List.set_cons_zero, List.set_cons_succ]; rfl
          refine seq_take (v := ?_) (a' := ?_) (some 136) rfl rfl (by rfl) ?_ ?_ ?_
          rotate_left; rotate_left
          · intro w' hS; go_simp; with_reducible rfl
          · simp only [Act.put, List.setIfInBounds_toArray, List.set_cons_zero, List.set_cons_succ]; rfl
          refine seq_done ?_
          go_wp2_with fail
          go_roundw
          case rel => exact ⟨k + 1, n + 1, M1, lv', _, by simp, by simp, by omega, Lib.hid ⟨HSZ.out.1.below hB, HSZ.out.2⟩, Lib.hid (bl_next HBZ.out hB)⟩
          case measure => simp [intOf]; omega
        | false =>
          have hov := HOBJ.out rfl
          subst hov
          have hB := hB.drew
          refine region_seq (fun w' => Below Z.heap.size Z w') [(0, true), (1, true), (2, true), (3, true), (4, true), (5, true), (6, true), (7, false), (8, true), (9, true), (10, true), (11, true), (12, true), (13, true), (14, true), (15, true), (16, true), (17, true), (18, true), (19, true), (20, true), (21, true), (22, true), (23, true), (24, true), (25, true), (26, true), (27, true), (28, true), (29, true), (30, true), (31, true), (32, true), (33, true), (34, true), (35, true), (36, true), (37, true), (38, true), (39, true), (40, true), (41, true), (42, true), (43, true), (44, true), (45, true), (46, true), (47, true), (48, true), (49, true), (50, true)] (by kernel_rfl) (by kernel_rfl) (fun _ _ _ _ h => h) hB ?_
          try generalize World.drew _ = wS at hB ⊢
          refine seq_take (v := ?_) (a' := ?_) (some 86) rfl rfl (by rfl) ?_ ?_ ?_
          rotate_left; rotate_left
          · intro w' hS; go_simp; with_reducible rfl
          · simp only [Act.put, List.setIfInBounds_toArray, List.set_cons_zero, List.set_cons_succ]; rfl
          refine seq_take (v := ?_) (a' := ?_) (some 87) rfl rfl (by rfl) ?_ ?_ ?_
          rotate_left; rotate_left
          · intro w' hS; go_simp; with_reducible rfl
          · simp only [Act.put, List.setIfInBounds_toArray, List.set_cons_zero, List.set_cons_succ]; rfl
          refine seq_take (v := ?_) (a' := ?_) (some 88) rfl rfl (by rfl) ?_ ?_ ?_
          rotate_left; rotate_left
          · intro w' hS; have z0 := cb hS e0; have z1 := cb hS e1; have z2 := cb hS e2; have z3 := cb hS e3; have z4 := cb hS e4; have z5 := cb hS e5; have z6 := cb hS e6; have z7 := cb hS e7; have z8 := cb hS e8; have z9 := cb hS e9; have z10 := cb hS e10; have o3 := cb hS o3; have qz := QZ.out.below hS; have q0 := qz.c0; have q1 := qz.c1; have q2 := qz.c2; have q3 := qz.c3; have q4 := qz.c4; have q5 := qz.c5; have q6 := qz.c6; have q7 := qz.c7; have q8 := qz.c8; simp only at q0 q1 q2 q3; go_simp; with_reducible rfl
          · simp only [Act.put, List.setIfInBounds_toArray, List.set_cons_zero, List.set_cons_succ]; rfl
          refine seq_take (v := ?_) (a' := ?_) (some 89) rfl rfl (by rfl) ?_ ?_ ?_
          rotate_left; rotate_left
          · intro w' hS; go_simp; with_reducible rfl
          · simp only [Act.put, List.setIfInBounds_toArray, List.set_cons_zero, List.set_cons_succ]; rfl
          refine seq_take (v := ?_) (a' := ?_) (some 90) rfl rfl (by rfl) ?_ ?_ ?_
          rotate_left; rotate_left
          · intro w' hS; go_simp; with_reducible rfl
          · simp only [Act.put, List.setIfInBounds_toArray, List.set_cons_zero, List.set_cons_succ]; rfl
          refine seq_take (v := ?_) (a' := ?_) (some 91) rfl rfl (by rfl) ?_ ?_ ?_
          rotate_left; rotate_left
          · intro w' hS; go_simp; with_reducible rfl
          · simp only [Act.put, List.setIfInBounds_toArray, List.set_cons_zero, List.set_cons_succ]; rfl
          refine seq_take (v := ?_) (a' := ?_) (some 92) rfl rfl (by rfl) ?_ ?_ ?_
          rotate_left; rotate_left
          · intro w' hS; have z0 := cb hS e0; have z1 := cb hS e1; have z2 := cb hS e2; have z3 := cb hS e3; have z4 := cb hS e4; have z5 := cb hS e5; have z6 := cb hS e6; have z7 := cb hS e7; have z8 := cb hS e8; have z9 := cb hS e9; have z10 := cb hS e10; have o3 := cb hS o3; have qz := QZ.out.below hS; have q0 := qz.c0; have q1 := qz.c1; have q2 := qz.c2; have q3 := qz.c3; have q4 := qz.c4; have q5 := qz.c5; have q6 := qz.c6; have q7 := qz.c7; have q8 := qz.c8; simp only at q0 q1 q2 q3; go_simp; with_reducible rfl
          · simp only [Act.put, List.setIfInBounds_toArray, List.set_cons_zero, List.set_cons_succ]; rfl
          refine seq_call (args := ?_) Try.func21 (by kernel_rfl) rfl (some 93) rfl rfl (by rfl) rfl ?_ ?_
          rotate_left
          · simp only [List.map_toArray, List.map_cons, List.map_nil]; go_simp; rfl
          with_reducible refine (HRI.out _ hB).mono ?_
          rintro e w' ⟨rfl, hb⟩
          refine ⟨_, rfl, bl_next (by repeat (first | with_reducible exact hB | refine Below.alloc ?_ (by have := hB.size; simp; omega) _ | refine bl_dN ?_ _ | refine Below.drew ?_ | refine Below.setCell ?_ (by have := hB.size; simp; omega) _)) hb, ?_⟩
          have hB := bl_next (by repeat (first | with_reducible exact hB | refine Below.alloc ?_ (by have := hB.size; simp; omega) _ | refine bl_dN ?_ _ | refine Below.drew ?_ | refine Below.setCell ?_ (by have := hB.size; simp; omega) _)) hb; clear hb
          simp only [Act.put, List.setIfInBounds_toArray, List.set_cons_zero, List.set_cons_succ]
          refine seq_take (v := ?_) (a' := ?_) (some 94) rfl rfl (by rfl) ?_ ?_ ?_
          rotate_left; rotate_left
          · intro w' hS; go_simp; with_reducible rfl
          · simp only [Act.put, List.setIfInBounds_toArray, List.set_cons_zero, List.set_cons_succ]; rfl
          refine seq_take (v := ?_) (a' := ?_) (some 95) rfl rfl (by rfl) ?_ ?_ ?_
          rotate_left; rotate_left
          · intro w' hS; go_simp; with_reducible rfl
          · simp only [Act.put, List.setIfInBounds_toArray, List.set_cons_zero, List.set_cons_succ]; rfl
          refine seq_take (v := ?_) (a' := ?_) (some 96) rfl rfl (by rfl) ?_ ?_ ?_
          rotate_left; rotate_left
          · intro w' hS; go_simp; with_reducible rfl
          · simp only [Act.put, List.setIfInBounds_toArray, List.set_cons_zero, List.set_cons_succ]; rfl
          refine seq_take (v := ?_) (a' := ?_) (some 97) rfl rfl (by rfl) ?_ ?_ ?_
          rotate_left; rotate_left
          · intro w' hS; go_simp; with_reducible rfl
          · simp only [Act.put, List.setIfInBounds_toArray, List.set_cons_zero, List.set_cons_succ]; rfl
          refine seq_take (v := ?_) (a' := ?_) (some 98) rfl rfl (by rfl) ?_ ?_ ?_
          rotate_left; rotate_left
          · intro w' hS; go_simp; with_reducible rfl
          · simp only [Act.put, List.setIfInBounds_toArray, List.set_cons_zero, List.set_cons_succ]; rfl
          refine seq_take (v := ?_) (a' := ?_) (some 99) rfl rfl (by rfl) ?_ ?_ ?_
          rotate_left; rotate_left
          · intro w' hS; have z0 := cb hS e0; have z1 := cb hS e1; have z2 := cb hS e2; have z3 := cb hS e3; have z4 := cb hS e4; have z5 := cb hS e5; have z6 := cb hS e6; have z7 := cb hS e7; have z8 := cb hS e8; have z9 := cb hS e9; have z10 := cb hS e10; have o3 := cb hS o3; have qz := QZ.out.below hS; have q0 := qz.c0; have q1 := qz.c1; have q2 := qz.c2; have q3 := qz.c3; have q4 := qz.c4; have q5 := qz.c5; have q6 := qz.c6; have q7 := qz.c7; have q8 := qz.c8; simp only at q0 q1 q2 q3; go_simp; with_reducible rfl
          · simp only [Act.put, List.setIfInBounds_toArray, List.set_cons_zero, List.set_cons_succ]; rfl
          refine seq_take (v := ?_) (a' := ?_) (some 100) rfl rfl (by rfl) ?_ ?_ ?_
          rotate_left; rotate_left
          · intro w' hS; go_simp; with_reducible rfl
          · simp only [Act.put, List.setIfInBounds_toArray, List.set_cons_zero, List.set_cons_succ]; rfl
          refine seq_take (v := ?_) (a' := ?_) (some 101) rfl rfl (by rfl) ?_ ?_ ?_
          rotate_left; rotate_left
          · intro w' hS; go_simp; with_reducible rfl
          · simp only [Act.put, List.setIfInBounds_toArray, List.set_cons_zero, List.set_cons_succ]; rfl
          refine seq_take (v := ?_) (a' := ?_) (some 102) rfl rfl (by rfl) ?_ ?_ ?_
          rotate_left; rotate_left
          · intro w' hS; go_simp; with_reducible rfl
          · simp only [Act.put, List.setIfInBounds_toArray, List.set_cons_zero, List.set_cons_succ]; rfl
          refine seq_take (v := ?_) (a' := ?_) (some 103) rfl rfl (by rfl) ?_ ?_ ?_
          rotate_left; rotate_left
          · intro w' hS; go_simp; with_reducible rfl
          · simp only [Act.put, List.setIfInBounds_toArray, List.set_cons_zero, List.set_cons_succ]; rfl
          refine seq_take (v := ?_) (a' := ?_) (some 104) rfl rfl (by rfl) ?_ ?_ ?_
          rotate_left; rotate_left
          · intro w' hS; go_simp; with_reducible rfl
          · simp only [Act.put, List.setIfInBounds_toArray, List.set_cons_zero, List.set_cons_succ]; rfl
          refine seq_take (v := ?_) (a' := ?_) (some 105) rfl rfl (by rfl) ?_ ?_ ?_
          rotate_left; rotate_left
          · intro w' hS; have z0 := cb hS e0; have z1 := cb hS e1; have z2 := cb hS e2; have z3 := cb hS e3; have z4 := cb hS e4; have z5 := cb hS e5; have z6 := cb hS e6; have z7 := cb hS e7; have z8 := cb hS e8; have z9 := cb hS e9; have z10 := cb hS e10; have o3 := cb hS o3; have qz := QZ.out.below hS; have q0 := qz.c0; have q1 := qz.c1; have q2 := qz.c2; have q3 := qz.c3; have q4 := qz.c4; have q5 := qz.c5; have q6 := qz.c6; have q7 := qz.c7; have q8 := qz.c8; simp only at q0 q1 q2 q3; go_simp; with_reducible rfl
          · simp only [Act.put, List.setIfInBounds_toArray, List.set_cons_zero, List.set_cons_succ]; rfl
          refine seq_take (v := ?_) (a' := ?_) (some 106) rfl rfl (by rfl) ?_ ?_ ?_
          rotate_left; rotate_left
          · intro w' hS; go_simp; with_reducible rfl
          · simp only [Act.put, List.setIfInBounds_toArray, List.set_cons_zero, List.set_cons_succ]; rfl
          refine seq_take (v := ?_) (a' := ?_) (some 107) rfl rfl (by rfl) ?_ ?_ ?_
          rotate_left; rotate_left
          · intro w' hS; go_simp; with_reducible rfl
          · simp only [Act.put, List.setIfInBounds_toArray, List.set_cons_zero, List.set_cons_succ]; rfl
          refine seq_take (v := ?_) (a' := ?_) (some 108) rfl rfl (by rfl) ?_ ?_ ?_
          rotate_left; rotate_left
          · intro w' hS; go_simp; with_reducible rfl
          · simp only [Act.put, List.setIfInBounds_toArray, List.set_cons_zero, List.set_cons_succ]; rfl
          refine seq_take (v := ?_) (a' := ?_) (some 109) rfl rfl (by rfl) ?_ ?_ ?_
          rotate_left; rotate_left
          · intro w' hS; go_simp; with_reducible rfl
          · simp only [Act.put, List.setIfInBounds_toArray, List.set_cons_zero, List.set_cons_succ]; rfl
          refine seq_take (v := ?_) (a' := ?_) (some 110) rfl rfl (by rfl) ?_ ?_ ?_
          rotate_left; rotate_left
          · intro w' hS; have z0 := cb hS e0; have z1 := cb hS e1; have z2 := cb hS e2; have z3 := cb hS e3; have z4 := cb hS e4; have z5 := cb hS e5; have z6 := cb hS e6; have z7 := cb hS e7; have z8 := cb hS e8; have z9 := cb hS e9; have z10 := cb hS e10; have o3 := cb hS o3; have qz := QZ.out.below hS; have q0 := qz.c0; have q1 := qz.c1; have q2 := qz.c2; have q3 := qz.c3; have q4 := qz.c4; have q5 := qz.c5; have q6 := qz.c6; have q7 := qz.c7; have q8 := qz.c8; simp only at q0 q1 q2 q3; go_simp; with_reducible rfl
          · simp only [Act.put, List.setIfInBounds_toArray, List.set_cons_zero, List.set_cons_succ]; rfl
          refine seq_take (v := ?_) (a' := ?_) (some 111) rfl rfl (by rfl) ?_ ?_ ?_
          rotate_left; rotate_left
          · intro w' hS; go_simp; with_reducible rfl
          · simp only [Act.put, List.setIfInBounds_toArray, List.set_cons_zero, List.set_cons_succ]; rfl
          refine seq_take (v := ?_) (a' := ?_) (some 112) rfl rfl (by rfl) ?_ ?_ ?_
          rotate_left; rotate_left
          · intro w' hS; go_simp; with_reducible rfl
          · simp only [Act.put, List.setIfInBounds_toArray, List.set_cons_zero, List.set_cons_succ]; rfl
          refine seq_take (v := ?_) (a' := ?_) (some 113) rfl rfl (by rfl) ?_ ?_ ?_
          rotate_left; rotate_left
          · intro w' hS; go_simp; with_reducible rfl
          · simp only [Act.put, List.setIfInBounds_toArray, List.set_cons_zero, List.set_cons_succ]; rfl
          refine seq_take (v := ?_) (a' := ?_) (some 114) rfl rfl (by rfl) ?_ ?_ ?_
          rotate_left; rotate_left
          · intro w' hS; go_simp; with_reducible rfl
          · simp only [Act.put, List.setIfInBounds_toArray, List.set_cons_zero, List.set_cons_succ]; rfl
          refine seq_take (v := ?_) (a' := ?_) (some 115) rfl rfl (by rfl) ?_ ?_ ?_
          rotate_left; rotate_left
          · intro w' hS; go_simp; with_reducible rfl
          · simp only [Act.put, List.setIfInBounds_toArray, List.set_cons_zero, List.set_cons_succ]; rfl
          refine seq_take (v := ?_) (a' := ?_) (some 116) rfl rfl (by rfl) ?_ ?_ ?_
          rotate_left; rotate_left
          · intro w' hS; have z0 := cb hS e0; have z1 := cb hS e1; have z2 := cb hS e2; have z3 := cb hS e3; have z4 := cb hS e4; have z5 := cb hS e5; have z6 := cb hS e6; have z7 := cb hS e7; have z8 := cb hS e8; have z9 := cb hS e9; have z10 := cb hS e10; have o3 := cb hS o3; have qz := QZ.out.below hS; have q0 := qz.c0; have q1 := qz.c1; have q2 := qz.c2; have q3 := qz.c3; have q4 := qz.c4; have q5 := qz.c5; have q6 := qz.c6; have q7 := qz.c7; have q8 := qz.c8; simp only at q0 q1 q2 q3; go_simp; with_reducible rfl
          · simp only [Act.put, List.setIfInBounds_toArray, List.set_cons_zero, List.set_cons_succ]; rfl
          refine seq_take (v := ?_) (a' := ?_) (some 117) rfl rfl (by rfl) ?_ ?_ ?_
          rotate_left; rotate_left
          · intro w' hS; go_simp; with_reducible rfl
          · simp only [Act.put, List.setIfInBounds_toArray, List.set_cons_zero, List.set_cons_succ]; rfl
          refine seq_take (v := ?_) (a' := ?_) (some 118) rfl rfl (by rfl) ?_ ?_ ?_
          rotate_left; rotate_left
          · intro w' hS; go_simp; with_reducible rfl
          · simp only [Act.put, List.setIfInBounds_toArray, List.set_cons_zero, List.set_cons_succ]; rfl
          refine seq_take (v := ?_) (a' := ?_) (some 119) rfl rfl (by rfl) ?_ ?_ ?_
          rotate_left; rotate_left
          · intro w' hS; go_simp; with_reducible rfl
          · simp only [Act.put, List.setIfInBounds_toArray, List.set_cons_zero, List.set_cons_succ]; rfl
          refine seq_take (v := ?_) (a' := ?_) (some 120) rfl rfl (by rfl) ?_ ?_ ?_
          rotate_left; rotate_left
          · intro w' hS; go_simp; with_reducible rfl
          · simp only [Act.put, List.setIfInBounds_toArray, List.set_cons_zero, List.set_cons_succ]; rfl
          refine seq_take (v := ?_) (a' := ?_) (some 121) rfl rfl (by rfl) ?_ ?_ ?_
          rotate_left; rotate_left
          · intro w' hS; go_simp; with_reducible rfl
          · simp only [Act.put, List.setIfInBounds_toArray, List.set_cons_zero, List.set_cons_succ]; rfl
          refine seq_take (v := ?_) (a' := ?_) (some 122) rfl rfl (by rfl) ?_ ?_ ?_
          rotate_left; rotate_left
          · intro w' hS; go_simp; with_reducible rfl
          · simp only [Act.put, List.setIfInBounds_toArray, List.set_cons_zero, List.set_cons_succ]; rfl
          refine seq_take (v := ?_) (a' := ?_) (some 123) rfl rfl (by rfl) ?_ ?_ ?_
          rotate_left; rotate_left
          · intro w' hS; go_simp; with_reducible rfl
          · simp only [Act.put, List.setIfInBounds_toArray, List.set_cons_zero, List.set_cons_succ]; rfl
          refine seq_take (v := ?_) (a' := ?_) (some 124) rfl rfl (by rfl) ?_ ?_ ?_
          rotate_left; rotate_left
          · intro w' hS; go_simp; with_reducible rfl
          · simp only [Act.put, List.setIfInBounds_toArray, List.set_cons_zero, List.set_cons_succ]; rfl
          refine seq_take (v := ?_) (a' := ?_) (some 125) rfl rfl (by rfl) ?_ ?_ ?_
          rotate_left; rotate_left
          · intro w' hS; have z0 := cb hS e0; have z1 := cb hS e1; have z2 := cb hS e2; have z3 := cb hS e3; have z4 := cb hS e4; have z5 := cb hS e5; have z6 := cb hS e6; have z7 := cb hS e7; have z8 := cb hS e8; have z9 := cb hS e9; have z10 := cb hS e10; have o3 := cb hS o3; have qz := QZ.out.below hS; have q0 := qz.c0; have q1 := qz.c1; have q2 := qz.c2; have q3 := qz.c3; have q4 := qz.c4; have q5 := qz.c5; have q6 := qz.c6; have q7 := qz.c7; have q8 := qz.c8; simp only at q0 q1 q2 q3; go_simp; with_reducible rfl
          · simp only [Act.put, List.setIfInBounds_toArray, List.set_cons_zero, List.set_cons_succ]; rfl
          refine seq_take (v := ?_) (a' := ?_) (some 126) rfl rfl (by rfl) ?_ ?_ ?_
          rotate_left; rotate_left
          · intro w' hS; go_simp; with_reducible rfl
          · simp only [Act.put, List.setIfInBounds_toArray, List.set_cons_zero, List.set_cons_succ]; rfl
          refine seq_take (v := ?_) (a' := ?_) (some 127) rfl rfl (by rfl) ?_ ?_ ?_
          rotate_left; rotate_left
          · intro w' hS; go_simp; with_reducible rfl
          · simp only [Act.put, List.setIfInBounds_toArray, List.set_cons_zero, List.set_cons_succ]; rfl
          refine seq_take (v := ?_) (a' := ?_) (some 128) rfl rfl (by rfl) ?_ ?_ ?_
          rotate_left; rotate_left
          · intro w' hS; go_simp; with_reducible rfl
          · simp only [Act.put, List.setIfInBounds_toArray, List.set_cons_zero, List.set_cons_succ]; rfl
          refine seq_take (v := ?_) (a' := ?_) (some 129) rfl rfl (by rfl) ?_ ?_ ?_
          rotate_left; rotate_left
          · intro w' hS; go_simp; with_reducible rfl
          · simp only [Act.put, List.setIfInBounds_toArray, List.set_cons_zero, List.set_cons_succ]; rfl
          refine seq_take (v := ?_) (a' := ?_) (some 130) rfl rfl (by rfl) ?_ ?_ ?_
          rotate_left; rotate_left
          · intro w' hS; go_simp; with_reducible rfl
          · simp only [Act.put, List.setIfInBounds_toArray, List.set_cons_zero, List.set_cons_succ]; rfl
          refine seq_take (v := ?_) (a' := ?_) (some 131) rfl rfl (by rfl) ?_ ?_ ?_
          rotate_left; rotate_left
          · intro w' hS; go_simp; with_reducible rfl
          · simp only [Act.put, List.setIfInBounds_toArray, List.set_cons_zero, List.set_cons_succ]; rfl
          refine seq_take (v := ?_) (a' := ?_) (some 132) rfl rfl (by rfl) ?_ ?_ ?_
          rotate_left; rotate_left
          · intro w' hS; have z0 := cb hS e0; have z1 := cb hS e1; have z2 := cb hS e2; have z3 := cb hS e3; have z4 := cb hS e4; have z5 := cb hS e5; have z6 := cb hS e6; have z7 := cb hS e7; have z8 := cb hS e8; have z9 := cb hS e9; have z10 := cb hS e10; have o3 := cb hS o3; have qz := QZ.out.below hS; have q0 := qz.c0; have q1 := qz.c1; have q2 := qz.c2; have q3 := qz.c3; have q4 := qz.c4; have q5 := qz.c5; have q6 := qz.c6; have q7 := qz.c7; have q8 := qz.c8; simp only at q0 q1 q2 q3; go_simp; with_reducible rfl
          · simp only [Act.put, List.setIfInBounds_toArray, List.set_cons_zero, List.set_cons_succ]; rfl
          refine seq_take (v := ?_) (a' := ?_) (some 133) rfl rfl (by rfl) ?_ ?_ ?_
          rotate_left; rotate_left
          · intro w' hS; go_simp; with_reducible rfl
          · simp only [Act.put, List.setIfInBounds_toArray, List.set_cons_zero, List.set_cons_succ]; rfl
          refine seq_take (v := ?_) (a' := ?_) (some 134) rfl rfl (by rfl) ?_ ?_ ?_
          rotate_left; rotate_left
          · intro w' hS; go_simp; with_reducible rfl
          · simp only [Act.put, List.setIfInBounds_toArray, List.set_cons_zero, List.set_cons_succ]; rfl
          refine seq_take (v := ?_) (a' := ?_) (some 135) rfl rfl (by rfl) ?_ ?_ ?_
          rotate_left; rotate_left
          · intro w' hS; go_simp; with_reducible rfl
          · simp only [Act.put, List.setIfInBounds_toArray, List.set_cons_zero, List.set_cons_succ]; rfl
          refine seq_take (v := ?_) (a' := ?_) (some 136) rfl rfl (by rfl) ?_ ?_ ?_
          rotate_left; rotate_left
          · intro w' hS; go_simp; with_reducible rfl
          · simp only [Act.put, List.setIfInBounds_toArray, List.set_cons_zero, List.set_cons_succ]; rfl
          refine seq_done ?_
          go_wp2_with fail
          go_roundw
          case rel => exact ⟨k + 1, n + 1, M1, lv', _, by simp, by simp, by omega, Lib.hid ⟨HSZ.out.1.below hB, HSZ.out.2⟩, Lib.hid (bl_next HBZ.out hB)⟩
          case measure => simp [intOf]; omega
      · have heF : (er == 0) = false := by simpa using he
        have heN : (er != 0) = true := by simpa using he
        obtain ⟨hvv, hbe⟩ := act9_err HA.out he
        subst hvv
        have HS1 := Lib.hid (HHK.out _ hbe)
        have HBw := Lib.hid (bl_next HBr.out hbe)
        have HLG := Lib.hid (slogN_calls w1 (m := n) HS1.out.1 HS1.out.2.2.2.2.2 (by have := HS1.out.2.2.1; omega) HS1.out.2.2.1)
        clear HA HH HHK HBr hbe
        go_upto_region 13 with (go_at_call 38; refine HLG.out.mono ?_; rintro e w2 ⟨A, c, rfl, HL, hb⟩; have HS2 := Lib.hid (show HoldsS w2 W.heap.size sp mb n k M lv L from ⟨HS1.out.1.below hb, HS1.out.2⟩); have HB2 := Lib.hid (bl_next HBw.out hb); clear hb)
        clear HL HLG HS1
        go_wp2_with (go_at_call 36; refine (sversion_calls _ HS2.out.1).mono ?_; rintro e w3 ⟨rfl, hb⟩; have HS3 := Lib.hid (show HoldsS w3 W.heap.size sp mb n (k + 1) M lv L from ⟨HS2.out.1.below hb, HS2.out.2.1, HS2.out.2.2.1, Nat.le_succ_of_le HS2.out.2.2.2.1, HS2.out.2.2.2.2⟩); have HB3 := Lib.hid (bl_next HB2.out hb); clear hb)
        go_roundw
        case rel => exact ⟨k + 1, n, M, lv, L, by simp, rfl, by omega, HS3, HB3⟩
        case measure => simp [intOf]; omega
    · obtain rfl : k = xs.length := by omega
      have HPI := Lib.hid (show rightE ⟨2, zeroO, (n : Int), srtX kTO (M.map (·.2.1))⟩ = true from HH.out.2.1.snap (by omega) (by have := HH.out.2.2.2.2.1; omega))
      have HSN := Lib.hid (fun (U : World) (hb : Below wr.heap.size wr U) => ssnapshot_calls U (HH.out.1.below hb) (fun q hq => (HH.out.2.1.2 q hq).2.2.2.2) HH.out.2.1.keys HH.out.2.1.texts (by have := HH.out.2.2.2.2.1; omega))
      have HSM2 := Lib.hid (show OSmall (srtX kTO (M.map (·.2.1))) from fun o ho => by
        obtain ⟨q, hq, rfl⟩ := List.mem_map.1 (srtX_mem.1 ho)
        exact (HH.out.2.1.2 q hq).2.2.2.2)
      have HIN := Lib.hid (show ∀ o ∈ srtX kTO (M.map (·.2.1)), oIn o from fun o ho => by
        obtain ⟨q, hq, rfl⟩ := List.mem_map.1 (srtX_mem.1 ho)
        exact (HH.out.1.resM q hq).2.1)
      have HML := Lib.hid (show (srtX kTO (M.map (·.2.1))).length ≤ 1000000 by rw [srtX_len, List.length_map]; have := HH.out.2.2.2.2.1; omega)
      have HVI := Lib.hid (show in64 (n : Int) by unfold in64; omega)
      clear HH
      go_wp2_with (first | (go_at_call 27; refine (alive9_calls _).mono ?_; rintro e w2 ⟨rfl, hb⟩; have HB2 := Lib.hid (bl_next HBr.out hb); have hB := hb; clear hb) | (go_at_call 34; refine (HSN.out _ hB).mono ?_; rintro e w3 ⟨v, zs, rfl, hz, hzs, hb⟩; have HE := Lib.hid (snap_right HPI.out HSM2.out HIN.out HML.out HVI.out hz hzs); have HB3 := Lib.hid (bl_next HB2.out hb); obtain ⟨A9, c9, rfl⟩ := hz.form; clear hb hz hzs; unfold evV at HE ⊢) | (go_at_call 21; refine HE.out.mono ?_; rintro e w4 ⟨rfl, hb⟩; have HB4 := Lib.hid (bl_next HB3.out hb); clear hb))
      go_ret
      exact ⟨rfl, bl_trans HB0.out HB4.out HB0.out.size⟩
end Go.Proofs.Ythhfcambdmdgfaa

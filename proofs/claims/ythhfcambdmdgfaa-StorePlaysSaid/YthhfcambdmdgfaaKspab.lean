import Derived.Test.YthhfcambdmdgfaaProg
import Derived.Test.YthhfcambdmdgfaaKspaa
import Derived.Laws.CopyRow
import Derived.Laws.CopyOwn
import Derived.Laws.OwnMore
import Derived.Laws.MakeOwn
import Derived.Lib.SlBuf
namespace Go.Proofs.Ythhfcambdmdgfaa
open Go.RowKit
set_option linter.unusedSimpArgs false
set_option linter.unusedVariables false
def keyText (k s n : ByteArray) : ByteArray := s ++ ⟨#[47]⟩ ++ k ++ ⟨#[47]⟩ ++ n
theorem keyText_size (k s n : ByteArray) : (keyText k s n).size = k.size + s.size + n.size + 2 := by
  have : (⟨#[47]⟩ : ByteArray).size = 1 := rfl
  simp only [keyText, ByteArray.size_append, this]; omega
theorem text_calls (k s n : ByteArray) (w : World) (h : k.size + s.size + n.size ≤ 140737488355328) :
    Calls Try.prog 66 #[.agg #[.string k, .string s, .string n]] w fun e w' => e = .returned (.string (keyText k s n)) ∧ Below w.heap.size w w' := by
  go_enter Try.func66, Try.ntmps66
  go_wp2
  go_ret
  exact ⟨rfl, (Below.refl _ _).alloc (Nat.le_refl _) _⟩
set_option maxHeartbeats 400000 in
theorem less_calls (k s n k' s' n' : ByteArray) (w : World) (h : k.size + s.size + n.size ≤ 140737488355328) (h' : k'.size + s'.size + n'.size ≤ 140737488355328) :
    Calls Try.prog 25 #[.agg #[.string k, .string s, .string n], .agg #[.string k', .string s', .string n']] w fun e w' => e = .returned (.bool (Op.bytesLess (keyText k s n).toList (keyText k' s' n').toList)) ∧ Below w.heap.size w w' := by
  go_enter Try.func25, Try.ntmps25
  go_wp2_with fail
  first | with_reducible refine name_wp ?_ | with_reducible refine name_calls ?_
  intro W hWeq
  have g0 : W.heap[w.heap.size]? = some (.cells #[.string k, .string s, .string n] 24) := by rw [hWeq]; repeat (first | (with_reducible exact blk_newAt _ _ (by simp)) | with_reducible refine blk_drew ?_ | with_reducible refine blk_dN ?_ _ | with_reducible refine blk_old ?_ _)
  have g1 : W.heap[w.heap.size + 1]? = some (.cells #[.string k', .string s', .string n'] 24) := by rw [hWeq]; repeat (first | (with_reducible exact blk_newAt _ _ (by simp)) | with_reducible refine blk_drew ?_ | with_reducible refine blk_dN ?_ _ | with_reducible refine blk_old ?_ _)
  have hw : Below w.heap.size w W := by rw [hWeq]; repeat (first | with_reducible exact Below.refl _ _ | with_reducible refine Below.drew ?_ | with_reducible refine bl_dN ?_ _ | with_reducible refine Below.alloc ?_ (by simp <;> omega) _)
  clear hWeq
  have hz : w.heap.size + 2 ≤ W.heap.size := by have := blk_lt g1; omega
  have c0_0 : W.cell? ⟨w.heap.size, 0, none⟩ = some (.string k) := blk_cell g0 0
  have c0_1 : W.cell? ⟨w.heap.size, 1, none⟩ = some (.string s) := blk_cell g0 1
  have c0_2 : W.cell? ⟨w.heap.size, 2, none⟩ = some (.string n) := blk_cell g0 2
  have f0 : ∀ j, W.frozen? ⟨w.heap.size, j, none⟩ = false := blk_free g0
  have c1_0 : W.cell? ⟨w.heap.size + 1, 0, none⟩ = some (.string k') := blk_cell g1 0
  have c1_1 : W.cell? ⟨w.heap.size + 1, 1, none⟩ = some (.string s') := blk_cell g1 1
  have c1_2 : W.cell? ⟨w.heap.size + 1, 2, none⟩ = some (.string n') := blk_cell g1 2
  have f1 : ∀ j, W.frozen? ⟨w.heap.size + 1, j, none⟩ = false := blk_free g1
  have hB : Below W.heap.size W W := Below.refl _ _
  have G0 := Lib.hid g0; clear g0
  have F0 := Lib.hid f0; clear f0
  have G1 := Lib.hid g1; clear g1
  have F1 := Lib.hid f1; clear f1
  have Hw := Lib.hid hw; clear hw
  have hB := hB.drew
  go_region_held3 (fun w' => w'.cell? ⟨w.heap.size, 0, none⟩ = some (.string k) ∧ w'.cell? ⟨w.heap.size, 1, none⟩ = some (.string s) ∧ w'.cell? ⟨w.heap.size, 2, none⟩ = some (.string n) ∧ w'.cell? ⟨w.heap.size + 1, 0, none⟩ = some (.string k') ∧ w'.cell? ⟨w.heap.size + 1, 1, none⟩ = some (.string s') ∧ w'.cell? ⟨w.heap.size + 1, 2, none⟩ = some (.string n')) (exact ⟨cb hB c0_0, cb hB c0_1, cb hB c0_2, cb hB c1_0, cb hB c1_1, cb hB c1_2⟩) (first | (go_at_call 66; refine (text_calls _ _ _ _ (by omega)).mono ?_; rintro e w' ⟨rfl, hb⟩; have hB := bl_next hB hb; clear hb))
  all_goals go_wp2
  all_goals go_ret
  all_goals exact ⟨rfl, bl_from Hw.out hB⟩
def keyB (k s n : ByteArray) : Bool := rightB s && rightB k && rightB n
theorem key_calls (k s n : ByteArray) (w : World) (hk : k.size ≤ 140737488355328) (hs : s.size ≤ 140737488355328) (hn : n.size ≤ 140737488355328) :
    Calls Try.prog 70 #[.agg #[.string k, .string s, .string n]] w fun e w' => e = .returned (.bool (keyB k s n)) ∧ Below w.heap.size w w' := by
  go_enter Try.func70, Try.ntmps70
  go_wp2_with fail
  first | with_reducible refine name_wp ?_ | with_reducible refine name_calls ?_
  intro W hWeq
  have g0 : W.heap[w.heap.size]? = some (.cells #[.string k, .string s, .string n] 24) := by rw [hWeq]; repeat (first | (with_reducible exact blk_newAt _ _ (by simp)) | with_reducible refine blk_drew ?_ | with_reducible refine blk_dN ?_ _ | with_reducible refine blk_old ?_ _)
  have hw : Below w.heap.size w W := by rw [hWeq]; repeat (first | with_reducible exact Below.refl _ _ | with_reducible refine Below.drew ?_ | with_reducible refine bl_dN ?_ _ | with_reducible refine Below.alloc ?_ (by simp <;> omega) _)
  clear hWeq
  have hz : w.heap.size + 1 ≤ W.heap.size := by have := blk_lt g0; omega
  have c0_0 : W.cell? ⟨w.heap.size, 0, none⟩ = some (.string k) := blk_cell g0 0
  have c0_1 : W.cell? ⟨w.heap.size, 1, none⟩ = some (.string s) := blk_cell g0 1
  have c0_2 : W.cell? ⟨w.heap.size, 2, none⟩ = some (.string n) := blk_cell g0 2
  have f0 : ∀ j, W.frozen? ⟨w.heap.size, j, none⟩ = false := blk_free g0
  have hB : Below W.heap.size W W := Below.refl _ _
  have G0 := Lib.hid g0; clear g0
  have F0 := Lib.hid f0; clear f0
  have Hw := Lib.hid hw; clear hw
  go_wp2_with (go_at_call 89; refine (right_calls _ _ (by assumption)).mono ?_; rintro e w' ⟨rfl, hb⟩; have hB := bl_next (by repeat (first | with_reducible exact hB | refine Below.alloc ?_ (by have := hB.size; simp; omega) _ | refine bl_dN ?_ _ | refine Below.drew ?_ | refine Below.setCell ?_ (by have := hB.size; simp; omega) _)) hb; clear hb; have k0_0 := cb hB c0_0; have k0_1 := cb hB c0_1; have k0_2 := cb hB c0_2; have kz0 : w.heap.size < _ := lt_of_cell k0_0)
  all_goals go_ret
  all_goals exact ⟨ret_bool (by simp [keyB, *]), bl_from Hw.out hB⟩
end Go.Proofs.Ythhfcambdmdgfaa
namespace Go.Proofs.Ythhfcambdmdgfaa
open Go.RowKit
set_option linter.unusedSimpArgs false
set_option linter.unusedVariables false
theorem refKey_calls (k s n : ByteArray) (w : World) (hk : k.size ≤ 1073741824000) (hs : s.size ≤ 1073741824000) (hn : n.size ≤ 1073741824000) :
    Calls Try.prog 62 #[.agg #[.string k, .string s, .string n]] w fun e w' => e = .returned (.bool (keyB k s n)) ∧ Below w.heap.size w w' := by
  go_enter Try.func62, Try.ntmps62
  go_wp2_with (go_at_call 86; refine (refRight_calls _ _ (by assumption)).mono ?_; rintro e w' ⟨rfl, nd, rfl⟩)
  all_goals go_ret
  all_goals exact ⟨ret_bool (by simp_all [keyB]), bl_dN ((Below.refl _ _).alloc (Nat.le_refl _) _) _⟩
theorem refLess_calls (k s n k' s' n' : ByteArray) (w : World) (h : k.size + s.size + n.size ≤ 1073741824) (h' : k'.size + s'.size + n'.size ≤ 1073741824) :
    Calls Try.prog 59 #[.agg #[.string k, .string s, .string n], .agg #[.string k', .string s', .string n']] w fun e w' => e = .returned (.bool (Op.bytesLess (keyText k s n).toList (keyText k' s' n').toList)) ∧ Below w.heap.size w w' := by
  have e1 : (keyText k s n).size ≤ 1073741824000 := by rw [keyText_size]; omega
  have e2 : (keyText k' s' n').size ≤ 1073741824000 := by rw [keyText_size]; omega
  have E1 := Lib.hid e1; have E2 := Lib.hid e2; clear e1 e2
  go_enter Try.func59, Try.ntmps59
  go_wp2_with fail
  refine (before_calls _ _ _ E1.out E2.out).mono ?_; rintro e w' ⟨rfl, nd, rfl⟩
  go_wp2
  go_ret
  exact ⟨rfl, bl_dN (((Below.refl _ _).alloc (Nat.le_refl _) _).alloc (by simp) _) _⟩
end Go.Proofs.Ythhfcambdmdgfaa
namespace Go.Proofs.Ythhfcambdmdgfaa
open Go.RowKit Go.Maps
set_option linter.unusedVariables false
set_option linter.unusedSimpArgs false
structure KeyD where
  kind : ByteArray
  space : ByteArray
  name : ByteArray
theorem keyD_ext {a b : KeyD} (h1 : a.kind = b.kind) (h2 : a.space = b.space) (h3 : a.name = b.name) : a = b := by cases a; cases b; simp_all
instance : DecidableEq KeyD := fun a b => if h : a.kind = b.kind ∧ a.space = b.space ∧ a.name = b.name then isTrue (keyD_ext h.1 h.2.1 h.2.2) else isFalse (fun e => h (by rw [e]; exact ⟨rfl, rfl, rfl⟩))
structure ObjD where
  key : KeyD
  ver : Int
  cls : ByteArray
  term : Bool
  best : Bool
  charge : Res
def keySmall (k : KeyD) : Prop := k.kind.size ≤ 1000 ∧ k.space.size ≤ 1000 ∧ k.name.size ≤ 1000
def objSmall (o : ObjD) : Prop := keySmall o.key ∧ o.cls.size ≤ 1000 ∧ o.charge.length ≤ 300 ∧ ∀ p ∈ o.charge, p.1.size ≤ 1000
def objV (o : ObjD) (sl : Value) : Value := .agg #[.string o.key.kind, .string o.key.space, .string o.key.name, .int .i64 o.ver, .string o.cls, .bool o.term, .bool o.best, sl]
def ObjS (w : World) (sl : Value) (o : ObjD) : Prop := ResS w sl o.charge ∧ in64 o.ver
section
variable {w w' : World} {sl : Value} {o : ObjD}
theorem ObjS.below (h : ObjS w sl o) (hb : Below w.heap.size w w') : ObjS w' sl o := ⟨h.1.below hb, h.2⟩
end
def keyOk (k : KeyD) : Bool := keyB k.kind k.space k.name
def resB (p : ByteArray × Int) : Bool := rightB p.1 && decide (0 ≤ p.2)
/-- Resources in line: each right, rising. -/
def chargeB (l : Res) : Bool := l.all resB && risB (keysA l)
def clsB (s : ByteArray) : Bool := decide (s = ⟨#[]⟩) || rightB s
def rightO (o : ObjD) : Bool := keyOk o.key && decide (1 ≤ o.ver) && clsB o.cls && decide (o.charge.length ≤ 16) && chargeB o.charge
theorem chargeB_iff {l : Res} : chargeB l = true ↔ (∀ p ∈ l, rightB p.1 = true ∧ 0 ≤ p.2) ∧ l.Pairwise (fun p q => ltB p.1 q.1 = true) := by
  unfold chargeB
  rw [Bool.and_eq_true, List.all_eq_true, risB_iff]
  unfold keysA
  rw [List.pairwise_map]
  simp only [resB, Bool.and_eq_true, decide_eq_true_eq]
theorem chargeB_take {l : Res} {k : Nat} (h : chargeB (l.take k) = false) : chargeB l = false := by
  cases q : chargeB l with
  | false => rfl
  | true =>
    obtain ⟨h1, h2⟩ := chargeB_iff.1 q
    rw [chargeB_iff.2 ⟨fun p hp => h1 p (List.mem_of_mem_take hp), List.Pairwise.sublist (List.take_sublist k l) h2⟩] at h
    cases h
theorem chargeB_0 {l : Res} (h : 0 < l.length) : chargeB (l.take 1) = resB (l[0]'h) := by
  cases l with
  | nil => cases h
  | cons p r => simp [chargeB, risB, keysA]
theorem chargeB_succ {l : Res} {k : Nat} (h : k + 1 < l.length) : chargeB (l.take (k + 2)) = (chargeB (l.take (k + 1)) && (resB (l[k + 1]'h) && ltB (l[k]'(by omega)).1 (l[k + 1]'h).1)) := by
  unfold chargeB
  rw [ris_take l h]
  have e : l.take (k + 2) = l.take (k + 1) ++ [l[k + 1]'h] := List.take_succ_eq_append_getElem h
  rw [e, List.all_append]
  simp only [List.all_cons, List.all_nil, Bool.and_true]
  cases (l.take (k + 1)).all resB <;> cases resB (l[k + 1]'h) <;> cases risB (keysA (l.take (k + 1))) <;> cases ltB (l[k]'(by omega)).1 (l[k + 1]'h).1 <;> rfl
theorem chargeB_at {l : Res} {k : Nat} (h : k < l.length) (hk : chargeB (l.take k) = true) : chargeB (l.take (k + 1)) = (resB (l[k]'h) && (if h0 : 0 < k then ltB (l[k - 1]'(by omega)).1 (l[k]'h).1 else true)) := by
  cases k with
  | zero => rw [chargeB_0 h]; simp
  | succ j => rw [chargeB_succ h, hk]; simp
theorem keyIf3 (a b c a' b' c' : ByteArray) (w : World) {q : Bool} (hq : (decide (a = a') && (decide (b = b') && decide (c = c'))) = q) : (if a.toList = a'.toList then if b.toList = b'.toList then if c.toList = c'.toList then Result.ok (Next.value (Value.bool true)) w else Result.ok (Next.value (Value.bool false)) w else Result.ok (Next.value (Value.bool false)) w else Result.ok (Next.value (Value.bool false)) w)
    = .ok (.value (.bool q)) w := by
  rw [← hq]
  simp only [ba_eq]
  by_cases h1 : a = a' <;> by_cases h2 : b = b' <;> by_cases h3 : c = c' <;> simp [h1, h2, h3]
theorem empty_list : (⟨#[]⟩ : ByteArray).toList = [] := by rw [Lib.toList_data]
set_option maxRecDepth 100000 in
set_option maxHeartbeats 16000000 in
theorem oright_calls (w : World) {sl : Value} {o : ObjD} (h : ObjS w sl o) (hs : objSmall o) :
    Calls Try.prog 68 #[objV o sl] w fun e w' => e = .returned (.bool (rightO o)) ∧ Below w.heap.size w w' := by
  have hB := Below.refl w.heap.size w
  have H := Lib.hid h.1
  have HS := Lib.hid hs
  obtain ⟨al, cl, rfl⟩ := h.1.form
  obtain ⟨⟨hs1, hs2, hs3⟩, hs4, hs5, hs6⟩ := hs
  have HSZ := Lib.hid hs6
  have hv := h.2
  unfold in64 at hv
  obtain ⟨hv1, hv2⟩ := hv
  clear h hs6
  obtain ⟨l, hl⟩ : ∃ l, o.charge = l := ⟨_, rfl⟩
  have HO := Lib.hid (show rightO o = (keyOk o.key && decide (1 ≤ o.ver) && clsB o.cls && decide (l.length ≤ 16) && chargeB l) by rw [← hl]; rfl)
  unfold objV
  rw [hl] at H HSZ hs5 ⊢
  clear hl
  obtain ⟨⟨kk, ks, kn⟩, ver, cls, term, best, chg⟩ := o
  simp only at HO hs1 hs2 hs3 hs4 hv1 hv2 ⊢
  clear HS
  go_enter Try.func68, Try.ntmps68
  go_upto_region 1 with fail
  first | with_reducible refine name_wp ?_ | with_reducible refine name_calls ?_
  intro W hWeq
  have g0 : W.heap[w.heap.size]? = some (.cells #[.string kk, .string ks, .string kn, .int .i64 ver, .string cls, .bool term, .bool best, .slice al l.length cl] 27) := by rw [hWeq]; repeat (first | (with_reducible exact blk_newAt _ _ (by simp)) | with_reducible refine blk_drew ?_ | with_reducible refine blk_dN ?_ _ | with_reducible refine blk_old ?_ _)
  have hw : Below w.heap.size w W := by rw [hWeq]; repeat (first | with_reducible exact Below.refl _ _ | with_reducible refine Below.drew ?_ | with_reducible refine bl_dN ?_ _ | with_reducible refine Below.alloc ?_ (by simp <;> omega) _)
  clear hWeq
  have hz : w.heap.size + 1 ≤ W.heap.size := by have := blk_lt g0; omega
  have c0_0 : W.cell? ⟨w.heap.size, 0, none⟩ = some (.string kk) := blk_cell g0 0
  have c0_1 : W.cell? ⟨w.heap.size, 1, none⟩ = some (.string ks) := blk_cell g0 1
  have c0_2 : W.cell? ⟨w.heap.size, 2, none⟩ = some (.string kn) := blk_cell g0 2
  have c0_3 : W.cell? ⟨w.heap.size, 3, none⟩ = some (.int .i64 ver) := blk_cell g0 3
  have c0_4 : W.cell? ⟨w.heap.size, 4, none⟩ = some (.string cls) := blk_cell g0 4
  have c0_5 : W.cell? ⟨w.heap.size, 5, none⟩ = some (.bool term) := blk_cell g0 5
  have c0_6 : W.cell? ⟨w.heap.size, 6, none⟩ = some (.bool best) := blk_cell g0 6
  have c0_7 : W.cell? ⟨w.heap.size, 7, none⟩ = some (.slice al l.length cl) := blk_cell g0 7
  have f0 : ∀ j, W.frozen? ⟨w.heap.size, j, none⟩ = false := blk_free g0
  have hB : Below W.heap.size W W := Below.refl _ _
  have G0 := Lib.hid g0; clear g0
  have F0 := Lib.hid f0; clear f0
  have Hw := Lib.hid hw; clear hw
  have HW := Lib.hid (H.out.below Hw.out)
  have hWw := Hw.out.size
  go_wp2_with fail
  clear hB
  go_loopw [8] (fun i wr => ∃ k : Nat, i = .int .i64 k ∧ k ≤ l.length ∧ Hid (chargeB (l.take k) = true) ∧ Hid (Below W.heap.size W wr)) (fun i _ => l.length - (intOf i).toNat)
  case atStart => exact ⟨0, rfl, Nat.zero_le _, Lib.hid rfl, Lib.hid (Below.refl _ _)⟩
  case round =>
    obtain ⟨k, rfl, hk, HR, HBr⟩ := hrel
    have k0_0 := cb HBr.out c0_0; have k0_1 := cb HBr.out c0_1; have k0_2 := cb HBr.out c0_2; have k0_3 := cb HBr.out c0_3; have k0_4 := cb HBr.out c0_4; have k0_5 := cb HBr.out c0_5; have k0_6 := cb HBr.out c0_6; have k0_7 := cb HBr.out c0_7
    by_cases hkl : k < l.length
    · have hkI : (k : Int) < l.length := by omega
      obtain ⟨b, of, c, he, q0, q1, hin⟩ := HW.out.at' hkl
      cases he
      have q0 := cb HBr.out q0; have q1 := cb HBr.out q1
      have hsz := HSZ.out _ (List.getElem_mem hkl)
      have NOT := Lib.hid (show chargeB (l.take (k + 1)) = false → rightO ⟨⟨kk, ks, kn⟩, ver, cls, term, best, chg⟩ = false from fun e => by rw [HO.out, chargeB_take e]; simp)
      have STEP := Lib.hid (chargeB_at hkl HR.out)
      have PREV : Hid (∀ h0 : 0 < k, ∃ s, (l[k - 1]'(by omega)).1 = s ∧ wr.cell? ⟨b, of + (k - 1) * 2, none⟩ = some (.string s)) := Lib.hid fun h0 => by
        obtain ⟨b', o', c', he', q0', _⟩ := HW.out.at' (show k - 1 < l.length by omega)
        cases he'
        exact ⟨_, rfl, cb HBr.out q0'⟩
      clear hin
      obtain ⟨p, hp⟩ : ∃ p, l[k]'hkl = p := ⟨_, rfl⟩
      rw [hp] at q0 q1 hsz STEP
      clear hp
      obtain ⟨V, rfl⟩ : ∃ V : World, V = wr := ⟨_, rfl⟩
      have hVw := HBr.out.size
      go_upto_region 5 with fail
      first | with_reducible refine name_wp ?_ | with_reducible refine name_calls ?_
      intro U hU
      have hw9 : Below V.heap.size V U := by rw [hU]; exact (Below.refl V.heap.size V).alloc (Nat.le_refl _) _
      have d0 : U.cell? ⟨V.heap.size, 0, none⟩ = some (.string p.1) := by rw [hU]; exact blk_cell (blk_new V _) 0
      have d1 : U.cell? ⟨V.heap.size, 1, none⟩ = some (.int .i64 p.2) := by rw [hU]; exact blk_cell (blk_new V _) 1
      clear hU
      have hB := Below.refl U.heap.size U
      have d7 := cb hw9 k0_7
      have Q0 := Lib.hid (cb hw9 q0)
      have HBU := Lib.hid (bl_from HBr.out hw9)
      have HW9 := Lib.hid hw9
      clear k0_0 k0_1 k0_2 k0_3 k0_4 k0_5 k0_6 k0_7 q0 q1 hw9
      by_cases hrt : rightB p.1 = true
      · by_cases hz : p.2 < 0
        · have hzd : decide (p.2 < 0) = true := by simpa using hz
          have HN := Lib.hid (NOT.out (by rw [STEP.out]; unfold resB; rw [show decide (0 ≤ p.2) = false by simpa using hz]; simp))
          have hB := hB.drew
          refine region_seq (fun w' => Below U.heap.size U w') [(0, true), (1, true), (2, false), (3, true), (4, true), (5, true), (6, true), (7, true), (8, true), (9, true), (10, true), (11, true), (12, true), (13, true), (14, true), (15, true), (16, true), (17, true), (18, true), (19, true), (20, true), (21, true), (22, true), (23, true), (24, true)] (by kernel_rfl) (by kernel_rfl) (fun _ _ _ _ h => h) hB ?_
          try generalize World.drew _ = wS at hB ⊢
          refine seq_take (v := ?_) (a' := ?_) (some 16) rfl rfl (by rfl) ?_ ?_ ?_
          rotate_left; rotate_left
          · intro w' hS; go_simp; with_reducible rfl
          · simp only [Act.put, List.setIfInBounds_toArray, List.set_cons_zero, List.set_cons_succ]; rfl
          refine seq_take (v := ?_) (a' := ?_) (some 17) rfl rfl (by rfl) ?_ ?_ ?_
          rotate_left; rotate_left
          · intro w' hS; have p0 := cb hS d0; have p1 := cb hS d1; have p7 := cb hS d7; go_simp; with_reducible rfl
          · simp only [Act.put, List.setIfInBounds_toArray, List.set_cons_zero, List.set_cons_succ]; rfl
          refine seq_call (args := ?_) Try.func89 (by kernel_rfl) rfl (some 18) rfl rfl (by rfl) rfl ?_ ?_
          rotate_left
          · simp only [List.map_toArray, List.map_cons, List.map_nil]; go_simp; rfl
          with_reducible refine (right_calls _ _ (by omega)).mono ?_
          rintro e w' ⟨rfl, hb⟩
          rw [hrt]
          refine ⟨_, rfl, bl_next (by repeat (first | with_reducible exact hB | refine Below.alloc ?_ (by have := hB.size; simp; omega) _ | refine bl_dN ?_ _ | refine Below.drew ?_ | refine Below.setCell ?_ (by have := hB.size; simp; omega) _)) hb, ?_⟩
          have hB := bl_next (by repeat (first | with_reducible exact hB | refine Below.alloc ?_ (by have := hB.size; simp; omega) _ | refine bl_dN ?_ _ | refine Below.drew ?_ | refine Below.setCell ?_ (by have := hB.size; simp; omega) _)) hb; clear hb
          simp only [Act.put, List.setIfInBounds_toArray, List.set_cons_zero, List.set_cons_succ]
          refine seq_take (v := ?_) (a' := ?_) (some 19) rfl rfl (by rfl) ?_ ?_ ?_
          rotate_left; rotate_left
          · intro w' hS; go_simp; with_reducible rfl
          · simp only [Act.put, List.setIfInBounds_toArray, List.set_cons_zero, List.set_cons_succ]; rfl
          refine seq_take (v := ?_) (a' := ?_) (some 20) rfl rfl (by rfl) ?_ ?_ ?_
          rotate_left; rotate_left
          · intro w' hS; go_simp; with_reducible rfl
          · simp only [Act.put, List.setIfInBounds_toArray, List.set_cons_zero, List.set_cons_succ]; rfl
          refine seq_take (v := ?_) (a' := ?_) (some 21) rfl rfl (by rfl) ?_ ?_ ?_
          rotate_left; rotate_left
          · intro w' hS; go_simp; with_reducible rfl
          · simp only [Act.put, List.setIfInBounds_toArray, List.set_cons_zero, List.set_cons_succ]; rfl
          refine seq_take (v := ?_) (a' := ?_) (some 22) rfl rfl (by rfl) ?_ ?_ ?_
          rotate_left; rotate_left
          · intro w' hS; have p0 := cb hS d0; have p1 := cb hS d1; have p7 := cb hS d7; go_simp; with_reducible rfl
          · simp only [Act.put, List.setIfInBounds_toArray, List.set_cons_zero, List.set_cons_succ]; rfl
          refine seq_take (v := ?_) (a' := ?_) (some 23) rfl rfl (by rfl) ?_ ?_ ?_
          rotate_left; rotate_left
          · intro w' hS; go_simp; with_reducible rfl
          · simp only [Act.put, List.setIfInBounds_toArray, List.set_cons_zero, List.set_cons_succ]; rfl
          refine seq_take (v := ?_) (a' := ?_) (some 24) rfl rfl (by rfl) ?_ ?_ ?_
          rotate_left; rotate_left
          · intro w' hS; go_simp; with_reducible rfl
          · simp only [Act.put, List.setIfInBounds_toArray, List.set_cons_zero, List.set_cons_succ]; rfl
          refine seq_take (v := ?_) (a' := ?_) (some 25) rfl rfl (by rfl) ?_ ?_ ?_
          rotate_left; rotate_left
          · intro w' hS; go_simp; with_reducible rfl
          · simp only [Act.put, List.setIfInBounds_toArray, List.set_cons_zero, List.set_cons_succ]; rfl
          refine seq_skip (a' := ?_) (some 26) rfl rfl (by rfl) ?_ ?_
          rotate_left
          · simp only [Act.put, List.setIfInBounds_toArray, List.set_cons_zero, List.set_cons_succ]; rfl
          refine seq_skip (a' := ?_) (some 27) rfl rfl (by rfl) ?_ ?_
          rotate_left
          · simp only [Act.put, List.setIfInBounds_toArray, List.set_cons_zero, List.set_cons_succ]; rfl
          refine seq_skip (a' := ?_) (some 28) rfl rfl (by rfl) ?_ ?_
          rotate_left
          · simp only [Act.put, List.setIfInBounds_toArray, List.set_cons_zero, List.set_cons_succ]; rfl
          refine seq_skip (a' := ?_) (some 29) rfl rfl (by rfl) ?_ ?_
          rotate_left
          · simp only [Act.put, List.setIfInBounds_toArray, List.set_cons_zero, List.set_cons_succ]; rfl
          refine seq_skip (a' := ?_) (some 30) rfl rfl (by rfl) ?_ ?_
          rotate_left
          · simp only [Act.put, List.setIfInBounds_toArray, List.set_cons_zero, List.set_cons_succ]; rfl
          refine seq_skip (a' := ?_) (some 31) rfl rfl (by rfl) ?_ ?_
          rotate_left
          · simp only [Act.put, List.setIfInBounds_toArray, List.set_cons_zero, List.set_cons_succ]; rfl
          refine seq_skip (a' := ?_) (some 32) rfl rfl (by rfl) ?_ ?_
          rotate_left
          · simp only [Act.put, List.setIfInBounds_toArray, List.set_cons_zero, List.set_cons_succ]; rfl
          refine seq_skip (a' := ?_) (some 33) rfl rfl (by rfl) ?_ ?_
          rotate_left
          · simp only [Act.put, List.setIfInBounds_toArray, List.set_cons_zero, List.set_cons_succ]; rfl
          refine seq_skip (a' := ?_) (some 34) rfl rfl (by rfl) ?_ ?_
          rotate_left
          · simp only [Act.put, List.setIfInBounds_toArray, List.set_cons_zero, List.set_cons_succ]; rfl
          refine seq_skip (a' := ?_) (some 35) rfl rfl (by rfl) ?_ ?_
          rotate_left
          · simp only [Act.put, List.setIfInBounds_toArray, List.set_cons_zero, List.set_cons_succ]; rfl
          refine seq_skip (a' := ?_) (some 36) rfl rfl (by rfl) ?_ ?_
          rotate_left
          · simp only [Act.put, List.setIfInBounds_toArray, List.set_cons_zero, List.set_cons_succ]; rfl
          refine seq_skip (a' := ?_) (some 37) rfl rfl (by rfl) ?_ ?_
          rotate_left
          · simp only [Act.put, List.setIfInBounds_toArray, List.set_cons_zero, List.set_cons_succ]; rfl
          refine seq_skip (a' := ?_) (some 38) rfl rfl (by rfl) ?_ ?_
          rotate_left
          · simp only [Act.put, List.setIfInBounds_toArray, List.set_cons_zero, List.set_cons_succ]; rfl
          refine seq_skip (a' := ?_) (some 39) rfl rfl (by rfl) ?_ ?_
          rotate_left
          · simp only [Act.put, List.setIfInBounds_toArray, List.set_cons_zero, List.set_cons_succ]; rfl
          refine seq_take (v := ?_) (a' := ?_) (some 40) rfl rfl (by rfl) ?_ ?_ ?_
          rotate_left; rotate_left
          · intro w' hS; go_simp; with_reducible rfl
          · simp only [Act.put, List.setIfInBounds_toArray, List.set_cons_zero, List.set_cons_succ]; rfl
          refine seq_done ?_
          go_wp2_with fail
          go_ret
          exact ⟨ret_bool HN.out.symm, bl_from Hw.out (bl_next HBU.out hB)⟩
        · have hzI : 0 ≤ p.2 := by omega
          have hzd : decide (p.2 < 0) = false := by simpa using hzI
          have HE := Lib.hid (show resB p = true by unfold resB; rw [hrt]; simpa using hzI)
          by_cases h0 : k = 0
          · subst h0
            have HOK := Lib.hid (show chargeB (l.take 1) = true by have := STEP.out; rw [HE.out] at this; simpa using this)
            have hB := hB.drew
            refine region_seq (fun w' => Below U.heap.size U w') [(0, true), (1, true), (2, false), (3, true), (4, true), (5, true), (6, true), (7, true), (8, true), (9, true), (10, true), (11, true), (12, true), (13, true), (14, true), (15, true), (16, true), (17, true), (18, true), (19, true), (20, true), (21, true), (22, true), (23, true), (24, true)] (by kernel_rfl) (by kernel_rfl) (fun _ _ _ _ h => h) hB ?_
            try generalize World.drew _ = wS at hB ⊢
            refine seq_take (v := ?_) (a' := ?_) (some 16) rfl rfl (by rfl) ?_ ?_ ?_
            rotate_left; rotate_left
            · intro w' hS; go_simp; with_reducible rfl
            · simp only [Act.put, List.setIfInBounds_toArray, List.set_cons_zero, List.set_cons_succ]; rfl
            refine seq_take (v := ?_) (a' := ?_) (some 17) rfl rfl (by rfl) ?_ ?_ ?_
            rotate_left; rotate_left
            · intro w' hS; have p0 := cb hS d0; have p1 := cb hS d1; have p7 := cb hS d7; go_simp; with_reducible rfl
            · simp only [Act.put, List.setIfInBounds_toArray, List.set_cons_zero, List.set_cons_succ]; rfl
            refine seq_call (args := ?_) Try.func89 (by kernel_rfl) rfl (some 18) rfl rfl (by rfl) rfl ?_ ?_
            rotate_left
            · simp only [List.map_toArray, List.map_cons, List.map_nil]; go_simp; rfl
            with_reducible refine (right_calls _ _ (by omega)).mono ?_
            rintro e w' ⟨rfl, hb⟩
            rw [hrt]
            refine ⟨_, rfl, bl_next (by repeat (first | with_reducible exact hB | refine Below.alloc ?_ (by have := hB.size; simp; omega) _ | refine bl_dN ?_ _ | refine Below.drew ?_ | refine Below.setCell ?_ (by have := hB.size; simp; omega) _)) hb, ?_⟩
            have hB := bl_next (by repeat (first | with_reducible exact hB | refine Below.alloc ?_ (by have := hB.size; simp; omega) _ | refine bl_dN ?_ _ | refine Below.drew ?_ | refine Below.setCell ?_ (by have := hB.size; simp; omega) _)) hb; clear hb
            simp only [Act.put, List.setIfInBounds_toArray, List.set_cons_zero, List.set_cons_succ]
            refine seq_take (v := ?_) (a' := ?_) (some 19) rfl rfl (by rfl) ?_ ?_ ?_
            rotate_left; rotate_left
            · intro w' hS; go_simp; with_reducible rfl
            · simp only [Act.put, List.setIfInBounds_toArray, List.set_cons_zero, List.set_cons_succ]; rfl
            refine seq_take (v := ?_) (a' := ?_) (some 20) rfl rfl (by rfl) ?_ ?_ ?_
            rotate_left; rotate_left
            · intro w' hS; go_simp; with_reducible rfl
            · simp only [Act.put, List.setIfInBounds_toArray, List.set_cons_zero, List.set_cons_succ]; rfl
            refine seq_take (v := ?_) (a' := ?_) (some 21) rfl rfl (by rfl) ?_ ?_ ?_
            rotate_left; rotate_left
            · intro w' hS; go_simp; with_reducible rfl
            · simp only [Act.put, List.setIfInBounds_toArray, List.set_cons_zero, List.set_cons_succ]; rfl
            refine seq_take (v := ?_) (a' := ?_) (some 22) rfl rfl (by rfl) ?_ ?_ ?_
            rotate_left; rotate_left
            · intro w' hS; have p0 := cb hS d0; have p1 := cb hS d1; have p7 := cb hS d7; go_simp; with_reducible rfl
            · simp only [Act.put, List.setIfInBounds_toArray, List.set_cons_zero, List.set_cons_succ]; rfl
            refine seq_take (v := ?_) (a' := ?_) (some 23) rfl rfl (by rfl) ?_ ?_ ?_
            rotate_left; rotate_left
            · intro w' hS; go_simp; with_reducible rfl
            · simp only [Act.put, List.setIfInBounds_toArray, List.set_cons_zero, List.set_cons_succ]; rfl
            refine seq_take (v := ?_) (a' := ?_) (some 24) rfl rfl (by rfl) ?_ ?_ ?_
            rotate_left; rotate_left
            · intro w' hS; go_simp; with_reducible rfl
            · simp only [Act.put, List.setIfInBounds_toArray, List.set_cons_zero, List.set_cons_succ]; rfl
            refine seq_take (v := ?_) (a' := ?_) (some 25) rfl rfl (by rfl) ?_ ?_ ?_
            rotate_left; rotate_left
            · intro w' hS; go_simp; with_reducible rfl
            · simp only [Act.put, List.setIfInBounds_toArray, List.set_cons_zero, List.set_cons_succ]; rfl
            refine seq_take (v := ?_) (a' := ?_) (some 26) rfl rfl (by rfl) ?_ ?_ ?_
            rotate_left; rotate_left
            · intro w' hS; go_simp; with_reducible rfl
            · simp only [Act.put, List.setIfInBounds_toArray, List.set_cons_zero, List.set_cons_succ]; rfl
            refine seq_take (v := ?_) (a' := ?_) (some 27) rfl rfl (by rfl) ?_ ?_ ?_
            rotate_left; rotate_left
            · intro w' hS; go_simp; with_reducible rfl
            · simp only [Act.put, List.setIfInBounds_toArray, List.set_cons_zero, List.set_cons_succ]; rfl
            refine seq_take (v := ?_) (a' := ?_) (some 28) rfl rfl (by rfl) ?_ ?_ ?_
            rotate_left; rotate_left
            · intro w' hS; go_simp; with_reducible rfl
            · simp only [Act.put, List.setIfInBounds_toArray, List.set_cons_zero, List.set_cons_succ]; rfl
            refine seq_skip (a' := ?_) (some 29) rfl rfl (by rfl) ?_ ?_
            rotate_left
            · simp only [Act.put, List.setIfInBounds_toArray, List.set_cons_zero, List.set_cons_succ]; rfl
            refine seq_skip (a' := ?_) (some 30) rfl rfl (by rfl) ?_ ?_
            rotate_left
            · simp only [Act.put, List.setIfInBounds_toArray, List.set_cons_zero, List.set_cons_succ]; rfl
            refine seq_skip (a' := ?_) (some 31) rfl rfl (by rfl) ?_ ?_
            rotate_left
            · simp only [Act.put, List.setIfInBounds_toArray, List.set_cons_zero, List.set_cons_succ]; rfl
            refine seq_skip (a' := ?_) (some 32) rfl rfl (by rfl) ?_ ?_
            rotate_left
            · simp only [Act.put, List.setIfInBounds_toArray, List.set_cons_zero, List.set_cons_succ]; rfl
            refine seq_skip (a' := ?_) (some 33) rfl rfl (by rfl) ?_ ?_
            rotate_left
            · simp only [Act.put, List.setIfInBounds_toArray, List.set_cons_zero, List.set_cons_succ]; rfl
            refine seq_skip (a' := ?_) (some 34) rfl rfl (by rfl) ?_ ?_
            rotate_left
            · simp only [Act.put, List.setIfInBounds_toArray, List.set_cons_zero, List.set_cons_succ]; rfl
            refine seq_skip (a' := ?_) (some 35) rfl rfl (by rfl) ?_ ?_
            rotate_left
            · simp only [Act.put, List.setIfInBounds_toArray, List.set_cons_zero, List.set_cons_succ]; rfl
            refine seq_skip (a' := ?_) (some 36) rfl rfl (by rfl) ?_ ?_
            rotate_left
            · simp only [Act.put, List.setIfInBounds_toArray, List.set_cons_zero, List.set_cons_succ]; rfl
            refine seq_skip (a' := ?_) (some 37) rfl rfl (by rfl) ?_ ?_
            rotate_left
            · simp only [Act.put, List.setIfInBounds_toArray, List.set_cons_zero, List.set_cons_succ]; rfl
            refine seq_skip (a' := ?_) (some 38) rfl rfl (by rfl) ?_ ?_
            rotate_left
            · simp only [Act.put, List.setIfInBounds_toArray, List.set_cons_zero, List.set_cons_succ]; rfl
            refine seq_take (v := ?_) (a' := ?_) (some 39) rfl rfl (by rfl) ?_ ?_ ?_
            rotate_left; rotate_left
            · intro w' hS; go_simp; with_reducible rfl
            · simp only [Act.put, List.setIfInBounds_toArray, List.set_cons_zero, List.set_cons_succ]; rfl
            refine seq_take (v := ?_) (a' := ?_) (some 40) rfl rfl (by rfl) ?_ ?_ ?_
            rotate_left; rotate_left
            · intro w' hS; go_simp; with_reducible rfl
            · simp only [Act.put, List.setIfInBounds_toArray, List.set_cons_zero, List.set_cons_succ]; rfl
            refine seq_done ?_
            go_wp2_with fail
            go_roundw
            case rel => exact ⟨1, rfl, by omega, HOK, Lib.hid (bl_next HBU.out hB)⟩
            case measure => simp [intOf]; omega
          · obtain ⟨s, hs, hc⟩ := PREV.out (by omega)
            have hk0 : (0 : Int) < k := by omega
            have Q1 := cb HW9.out hc
            have hk1 : ((k : Int) - 1).toNat = k - 1 := by omega
            have hk2 : (0 : Int) ≤ (k : Int) - 1 := by omega
            have hk3 : (k : Int) - 1 < l.length := by omega
            have hk4 : (1 : Int) ≤ k := by omega
            have hk5 : 0 < k := by omega
            have hk6 : decide (0 < k) = true := decide_eq_true hk5
            have hk7 : IntKind.i64.wrap ((k : Int) - 1) = (k : Int) - 1 := IntWalk.i64_in _ (by omega)
            have hk8 : 1 ≤ k := hk5
            cases hlt : ltB s p.1 with
            | true =>
              have hbl : Op.bytesLess s.toList p.1.toList = true := hlt
              have HOK := Lib.hid (show chargeB (l.take (k + 1)) = true by have := STEP.out; rw [HE.out, dif_pos (by omega), hs, hlt] at this; simpa using this)
              clear hlt
              have hB := hB.drew
              refine region_seq (fun w' => Below U.heap.size U w') [(0, true), (1, true), (2, false), (3, true), (4, true), (5, true), (6, true), (7, true), (8, true), (9, true), (10, true), (11, true), (12, true), (13, true), (14, true), (15, true), (16, true), (17, true), (18, true), (19, true), (20, true), (21, true), (22, true), (23, true), (24, true)] (by kernel_rfl) (by kernel_rfl) (fun _ _ _ _ h => h) hB ?_
              try generalize World.drew _ = wS at hB ⊢
              refine seq_take (v := ?_) (a' := ?_) (some 16) rfl rfl (by rfl) ?_ ?_ ?_
              rotate_left; rotate_left
              · intro w' hS; go_simp; with_reducible rfl
              · simp only [Act.put, List.setIfInBounds_toArray, List.set_cons_zero, List.set_cons_succ]; rfl
              refine seq_take (v := ?_) (a' := ?_) (some 17) rfl rfl (by rfl) ?_ ?_ ?_
              rotate_left; rotate_left
              · intro w' hS; have p0 := cb hS d0; have p1 := cb hS d1; have p3 := cb hS Q1; have p7 := cb hS d7; go_simp; with_reducible rfl
              · simp only [Act.put, List.setIfInBounds_toArray, List.set_cons_zero, List.set_cons_succ]; rfl
              refine seq_call (args := ?_) Try.func89 (by kernel_rfl) rfl (some 18) rfl rfl (by rfl) rfl ?_ ?_
              rotate_left
              · simp only [List.map_toArray, List.map_cons, List.map_nil]; go_simp; rfl
              with_reducible refine (right_calls _ _ (by omega)).mono ?_
              rintro e w' ⟨rfl, hb⟩
              rw [hrt]
              refine ⟨_, rfl, bl_next (by repeat (first | with_reducible exact hB | refine Below.alloc ?_ (by have := hB.size; simp; omega) _ | refine bl_dN ?_ _ | refine Below.drew ?_ | refine Below.setCell ?_ (by have := hB.size; simp; omega) _)) hb, ?_⟩
              have hB := bl_next (by repeat (first | with_reducible exact hB | refine Below.alloc ?_ (by have := hB.size; simp; omega) _ | refine bl_dN ?_ _ | refine Below.drew ?_ | refine Below.setCell ?_ (by have := hB.size; simp; omega) _)) hb; clear hb
              simp only [Act.put, List.setIfInBounds_toArray, List.set_cons_zero, List.set_cons_succ]
              refine seq_take (v := ?_) (a' := ?_) (some 19) rfl rfl (by rfl) ?_ ?_ ?_
              rotate_left; rotate_left
              · intro w' hS; go_simp; with_reducible rfl
              · simp only [Act.put, List.setIfInBounds_toArray, List.set_cons_zero, List.set_cons_succ]; rfl
              refine seq_take (v := ?_) (a' := ?_) (some 20) rfl rfl (by rfl) ?_ ?_ ?_
              rotate_left; rotate_left
              · intro w' hS; go_simp; with_reducible rfl
              · simp only [Act.put, List.setIfInBounds_toArray, List.set_cons_zero, List.set_cons_succ]; rfl
              refine seq_take (v := ?_) (a' := ?_) (some 21) rfl rfl (by rfl) ?_ ?_ ?_
              rotate_left; rotate_left
              · intro w' hS; go_simp; with_reducible rfl
              · simp only [Act.put, List.setIfInBounds_toArray, List.set_cons_zero, List.set_cons_succ]; rfl
              refine seq_take (v := ?_) (a' := ?_) (some 22) rfl rfl (by rfl) ?_ ?_ ?_
              rotate_left; rotate_left
              · intro w' hS; have p0 := cb hS d0; have p1 := cb hS d1; have p3 := cb hS Q1; have p7 := cb hS d7; go_simp; with_reducible rfl
              · simp only [Act.put, List.setIfInBounds_toArray, List.set_cons_zero, List.set_cons_succ]; rfl
              refine seq_take (v := ?_) (a' := ?_) (some 23) rfl rfl (by rfl) ?_ ?_ ?_
              rotate_left; rotate_left
              · intro w' hS; go_simp; with_reducible rfl
              · simp only [Act.put, List.setIfInBounds_toArray, List.set_cons_zero, List.set_cons_succ]; rfl
              refine seq_take (v := ?_) (a' := ?_) (some 24) rfl rfl (by rfl) ?_ ?_ ?_
              rotate_left; rotate_left
              · intro w' hS; go_simp; with_reducible rfl
              · simp only [Act.put, List.setIfInBounds_toArray, List.set_cons_zero, List.set_cons_succ]; rfl
              refine seq_take (v := ?_) (a' := ?_) (some 25) rfl rfl (by rfl) ?_ ?_ ?_
              rotate_left; rotate_left
              · intro w' hS; go_simp; with_reducible rfl
              · simp only [Act.put, List.setIfInBounds_toArray, List.set_cons_zero, List.set_cons_succ]; rfl
              refine seq_take (v := ?_) (a' := ?_) (some 26) rfl rfl (by rfl) ?_ ?_ ?_
              rotate_left; rotate_left
              · intro w' hS; go_simp; with_reducible rfl
              · simp only [Act.put, List.setIfInBounds_toArray, List.set_cons_zero, List.set_cons_succ]; rfl
              refine seq_take (v := ?_) (a' := ?_) (some 27) rfl rfl (by rfl) ?_ ?_ ?_
              rotate_left; rotate_left
              · intro w' hS; go_simp; with_reducible rfl
              · simp only [Act.put, List.setIfInBounds_toArray, List.set_cons_zero, List.set_cons_succ]; rfl
              refine seq_take (v := ?_) (a' := ?_) (some 28) rfl rfl (by rfl) ?_ ?_ ?_
              rotate_left; rotate_left
              · intro w' hS; go_simp; with_reducible rfl
              · simp only [Act.put, List.setIfInBounds_toArray, List.set_cons_zero, List.set_cons_succ]; rfl
              refine seq_take (v := ?_) (a' := ?_) (some 29) rfl rfl (by rfl) ?_ ?_ ?_
              rotate_left; rotate_left
              · intro w' hS; go_simp; with_reducible rfl
              · simp only [Act.put, List.setIfInBounds_toArray, List.set_cons_zero, List.set_cons_succ]; rfl
              refine seq_take (v := ?_) (a' := ?_) (some 30) rfl rfl (by rfl) ?_ ?_ ?_
              rotate_left; rotate_left
              · intro w' hS; have p0 := cb hS d0; have p1 := cb hS d1; have p3 := cb hS Q1; have p7 := cb hS d7; go_simp; with_reducible rfl
              · simp only [Act.put, List.setIfInBounds_toArray, List.set_cons_zero, List.set_cons_succ]; rfl
              refine seq_take (v := ?_) (a' := ?_) (some 31) rfl rfl (by rfl) ?_ ?_ ?_
              rotate_left; rotate_left
              · intro w' hS; go_simp; with_reducible rfl
              · simp only [Act.put, List.setIfInBounds_toArray, List.set_cons_zero, List.set_cons_succ]; rfl
              refine seq_take (v := ?_) (a' := ?_) (some 32) rfl rfl (by rfl) ?_ ?_ ?_
              rotate_left; rotate_left
              · intro w' hS; go_simp; with_reducible rfl
              · simp only [Act.put, List.setIfInBounds_toArray, List.set_cons_zero, List.set_cons_succ]; rfl
              refine seq_take (v := ?_) (a' := ?_) (some 33) rfl rfl (by rfl) ?_ ?_ ?_
              rotate_left; rotate_left
              · intro w' hS; go_simp; with_reducible rfl
              · simp only [Act.put, List.setIfInBounds_toArray, List.set_cons_zero, List.set_cons_succ]; rfl
              refine seq_take (v := ?_) (a' := ?_) (some 34) rfl rfl (by rfl) ?_ ?_ ?_
              rotate_left; rotate_left
              · intro w' hS; go_simp; with_reducible rfl
              · simp only [Act.put, List.setIfInBounds_toArray, List.set_cons_zero, List.set_cons_succ]; rfl
              refine seq_take (v := ?_) (a' := ?_) (some 35) rfl rfl (by rfl) ?_ ?_ ?_
              rotate_left; rotate_left
              · intro w' hS; have p0 := cb hS d0; have p1 := cb hS d1; have p3 := cb hS Q1; have p7 := cb hS d7; go_simp; with_reducible rfl
              · simp only [Act.put, List.setIfInBounds_toArray, List.set_cons_zero, List.set_cons_succ]; rfl
              refine seq_take (v := ?_) (a' := ?_) (some 36) rfl rfl (by rfl) ?_ ?_ ?_
              rotate_left; rotate_left
              · intro w' hS; go_simp; with_reducible rfl
              · simp only [Act.put, List.setIfInBounds_toArray, List.set_cons_zero, List.set_cons_succ]; rfl
              refine seq_take (v := ?_) (a' := ?_) (some 37) rfl rfl (by rfl) ?_ ?_ ?_
              rotate_left; rotate_left
              · intro w' hS; have p0 := cb hS d0; have p1 := cb hS d1; have p3 := cb hS Q1; have p7 := cb hS d7; go_simp; with_reducible rfl
              · simp only [Act.put, List.setIfInBounds_toArray, List.set_cons_zero, List.set_cons_succ]; rfl
              refine seq_take (v := ?_) (a' := ?_) (some 38) rfl rfl (by rfl) ?_ ?_ ?_
              rotate_left; rotate_left
              · intro w' hS; go_simp; with_reducible rfl
              · simp only [Act.put, List.setIfInBounds_toArray, List.set_cons_zero, List.set_cons_succ]; rfl
              refine seq_take (v := ?_) (a' := ?_) (some 39) rfl rfl (by rfl) ?_ ?_ ?_
              rotate_left; rotate_left
              · intro w' hS; go_simp; with_reducible rfl
              · simp only [Act.put, List.setIfInBounds_toArray, List.set_cons_zero, List.set_cons_succ]; rfl
              refine seq_take (v := ?_) (a' := ?_) (some 40) rfl rfl (by rfl) ?_ ?_ ?_
              rotate_left; rotate_left
              · intro w' hS; go_simp; with_reducible rfl
              · simp only [Act.put, List.setIfInBounds_toArray, List.set_cons_zero, List.set_cons_succ]; rfl
              refine seq_done ?_
              go_wp2_with fail
              go_roundw
              case rel => exact ⟨k + 1, by simp, by omega, HOK, Lib.hid (bl_next HBU.out hB)⟩
              case measure => simp [intOf]; omega
            | false =>
              have hbl : Op.bytesLess s.toList p.1.toList = false := hlt
              have HN := Lib.hid (NOT.out (by have := STEP.out; rw [HE.out, dif_pos (by omega), hs, hlt] at this; simpa using this))
              clear hlt
              have hB := hB.drew
              refine region_seq (fun w' => Below U.heap.size U w') [(0, true), (1, true), (2, false), (3, true), (4, true), (5, true), (6, true), (7, true), (8, true), (9, true), (10, true), (11, true), (12, true), (13, true), (14, true), (15, true), (16, true), (17, true), (18, true), (19, true), (20, true), (21, true), (22, true), (23, true), (24, true)] (by kernel_rfl) (by kernel_rfl) (fun _ _ _ _ h => h) hB ?_
              try generalize World.drew _ = wS at hB ⊢
              refine seq_take (v := ?_) (a' := ?_) (some 16) rfl rfl (by rfl) ?_ ?_ ?_
              rotate_left; rotate_left
              · intro w' hS; go_simp; with_reducible rfl
              · simp only [Act.put, List.setIfInBounds_toArray, List.set_cons_zero, List.set_cons_succ]; rfl
              refine seq_take (v := ?_) (a' := ?_) (some 17) rfl rfl (by rfl) ?_ ?_ ?_
              rotate_left; rotate_left
              · intro w' hS; have p0 := cb hS d0; have p1 := cb hS d1; have p3 := cb hS Q1; have p7 := cb hS d7; go_simp; with_reducible rfl
              · simp only [Act.put, List.setIfInBounds_toArray, List.set_cons_zero, List.set_cons_succ]; rfl
              refine seq_call (args := ?_) Try.func89 (by kernel_rfl) rfl (some 18) rfl rfl (by rfl) rfl ?_ ?_
              rotate_left
              · simp only [List.map_toArray, List.map_cons, List.map_nil]; go_simp; rfl
              with_reducible refine (right_calls _ _ (by omega)).mono ?_
              rintro e w' ⟨rfl, hb⟩
              rw [hrt]
              refine ⟨_, rfl, bl_next (by repeat (first | with_reducible exact hB | refine Below.alloc ?_ (by have := hB.size; simp; omega) _ | refine bl_dN ?_ _ | refine Below.drew ?_ | refine Below.setCell ?_ (by have := hB.size; simp; omega) _)) hb, ?_⟩
              have hB := bl_next (by repeat (first | with_reducible exact hB | refine Below.alloc ?_ (by have := hB.size; simp; omega) _ | refine bl_dN ?_ _ | refine Below.drew ?_ | refine Below.setCell ?_ (by have := hB.size; simp; omega) _)) hb; clear hb
              simp only [Act.put, List.setIfInBounds_toArray, List.set_cons_zero, List.set_cons_succ]
              refine seq_take (v := ?_) (a' := ?_) (some 19) rfl rfl (by rfl) ?_ ?_ ?_
              rotate_left; rotate_left
              · intro w' hS; go_simp; with_reducible rfl
              · simp only [Act.put, List.setIfInBounds_toArray, List.set_cons_zero, List.set_cons_succ]; rfl
              refine seq_take (v := ?_) (a' := ?_) (some 20) rfl rfl (by rfl) ?_ ?_ ?_
              rotate_left; rotate_left
              · intro w' hS; go_simp; with_reducible rfl
              · simp only [Act.put, List.setIfInBounds_toArray, List.set_cons_zero, List.set_cons_succ]; rfl
              refine seq_take (v := ?_) (a' := ?_) (some 21) rfl rfl (by rfl) ?_ ?_ ?_
              rotate_left; rotate_left
              · intro w' hS; go_simp; with_reducible rfl
              · simp only [Act.put, List.setIfInBounds_toArray, List.set_cons_zero, List.set_cons_succ]; rfl
              refine seq_take (v := ?_) (a' := ?_) (some 22) rfl rfl (by rfl) ?_ ?_ ?_
              rotate_left; rotate_left
              · intro w' hS; have p0 := cb hS d0; have p1 := cb hS d1; have p3 := cb hS Q1; have p7 := cb hS d7; go_simp; with_reducible rfl
              · simp only [Act.put, List.setIfInBounds_toArray, List.set_cons_zero, List.set_cons_succ]; rfl
              refine seq_take (v := ?_) (a' := ?_) (some 23) rfl rfl (by rfl) ?_ ?_ ?_
              rotate_left; rotate_left
              · intro w' hS; go_simp; with_reducible rfl
              · simp only [Act.put, List.setIfInBounds_toArray, List.set_cons_zero, List.set_cons_succ]; rfl
              refine seq_take (v := ?_) (a' := ?_) (some 24) rfl rfl (by rfl) ?_ ?_ ?_
              rotate_left; rotate_left
              · intro w' hS; go_simp; with_reducible rfl
              · simp only [Act.put, List.setIfInBounds_toArray, List.set_cons_zero, List.set_cons_succ]; rfl
              refine seq_take (v := ?_) (a' := ?_) (some 25) rfl rfl (by rfl) ?_ ?_ ?_
              rotate_left; rotate_left
              · intro w' hS; go_simp; with_reducible rfl
              · simp only [Act.put, List.setIfInBounds_toArray, List.set_cons_zero, List.set_cons_succ]; rfl
              refine seq_take (v := ?_) (a' := ?_) (some 26) rfl rfl (by rfl) ?_ ?_ ?_
              rotate_left; rotate_left
              · intro w' hS; go_simp; with_reducible rfl
              · simp only [Act.put, List.setIfInBounds_toArray, List.set_cons_zero, List.set_cons_succ]; rfl
              refine seq_take (v := ?_) (a' := ?_) (some 27) rfl rfl (by rfl) ?_ ?_ ?_
              rotate_left; rotate_left
              · intro w' hS; go_simp; with_reducible rfl
              · simp only [Act.put, List.setIfInBounds_toArray, List.set_cons_zero, List.set_cons_succ]; rfl
              refine seq_take (v := ?_) (a' := ?_) (some 28) rfl rfl (by rfl) ?_ ?_ ?_
              rotate_left; rotate_left
              · intro w' hS; go_simp; with_reducible rfl
              · simp only [Act.put, List.setIfInBounds_toArray, List.set_cons_zero, List.set_cons_succ]; rfl
              refine seq_take (v := ?_) (a' := ?_) (some 29) rfl rfl (by rfl) ?_ ?_ ?_
              rotate_left; rotate_left
              · intro w' hS; go_simp; with_reducible rfl
              · simp only [Act.put, List.setIfInBounds_toArray, List.set_cons_zero, List.set_cons_succ]; rfl
              refine seq_take (v := ?_) (a' := ?_) (some 30) rfl rfl (by rfl) ?_ ?_ ?_
              rotate_left; rotate_left
              · intro w' hS; have p0 := cb hS d0; have p1 := cb hS d1; have p3 := cb hS Q1; have p7 := cb hS d7; go_simp; with_reducible rfl
              · simp only [Act.put, List.setIfInBounds_toArray, List.set_cons_zero, List.set_cons_succ]; rfl
              refine seq_take (v := ?_) (a' := ?_) (some 31) rfl rfl (by rfl) ?_ ?_ ?_
              rotate_left; rotate_left
              · intro w' hS; go_simp; with_reducible rfl
              · simp only [Act.put, List.setIfInBounds_toArray, List.set_cons_zero, List.set_cons_succ]; rfl
              refine seq_take (v := ?_) (a' := ?_) (some 32) rfl rfl (by rfl) ?_ ?_ ?_
              rotate_left; rotate_left
              · intro w' hS; go_simp; with_reducible rfl
              · simp only [Act.put, List.setIfInBounds_toArray, List.set_cons_zero, List.set_cons_succ]; rfl
              refine seq_take (v := ?_) (a' := ?_) (some 33) rfl rfl (by rfl) ?_ ?_ ?_
              rotate_left; rotate_left
              · intro w' hS; go_simp; with_reducible rfl
              · simp only [Act.put, List.setIfInBounds_toArray, List.set_cons_zero, List.set_cons_succ]; rfl
              refine seq_take (v := ?_) (a' := ?_) (some 34) rfl rfl (by rfl) ?_ ?_ ?_
              rotate_left; rotate_left
              · intro w' hS; go_simp; with_reducible rfl
              · simp only [Act.put, List.setIfInBounds_toArray, List.set_cons_zero, List.set_cons_succ]; rfl
              refine seq_take (v := ?_) (a' := ?_) (some 35) rfl rfl (by rfl) ?_ ?_ ?_
              rotate_left; rotate_left
              · intro w' hS; have p0 := cb hS d0; have p1 := cb hS d1; have p3 := cb hS Q1; have p7 := cb hS d7; go_simp; with_reducible rfl
              · simp only [Act.put, List.setIfInBounds_toArray, List.set_cons_zero, List.set_cons_succ]; rfl
              refine seq_take (v := ?_) (a' := ?_) (some 36) rfl rfl (by rfl) ?_ ?_ ?_
              rotate_left; rotate_left
              · intro w' hS; go_simp; with_reducible rfl
              · simp only [Act.put, List.setIfInBounds_toArray, List.set_cons_zero, List.set_cons_succ]; rfl
              refine seq_take (v := ?_) (a' := ?_) (some 37) rfl rfl (by rfl) ?_ ?_ ?_
              rotate_left; rotate_left
              · intro w' hS; have p0 := cb hS d0; have p1 := cb hS d1; have p3 := cb hS Q1; have p7 := cb hS d7; go_simp; with_reducible rfl
              · simp only [Act.put, List.setIfInBounds_toArray, List.set_cons_zero, List.set_cons_succ]; rfl
              refine seq_take (v := ?_) (a' := ?_) (some 38) rfl rfl (by rfl) ?_ ?_ ?_
              rotate_left; rotate_left
              · intro w' hS; go_simp; with_reducible rfl
              · simp only [Act.put, List.setIfInBounds_toArray, List.set_cons_zero, List.set_cons_succ]; rfl
              refine seq_take (v := ?_) (a' := ?_) (some 39) rfl rfl (by rfl) ?_ ?_ ?_
              rotate_left; rotate_left
              · intro w' hS; go_simp; with_reducible rfl
              · simp only [Act.put, List.setIfInBounds_toArray, List.set_cons_zero, List.set_cons_succ]; rfl
              refine seq_take (v := ?_) (a' := ?_) (some 40) rfl rfl (by rfl) ?_ ?_ ?_
              rotate_left; rotate_left
              · intro w' hS; go_simp; with_reducible rfl
              · simp only [Act.put, List.setIfInBounds_toArray, List.set_cons_zero, List.set_cons_succ]; rfl
              refine seq_done ?_
              go_wp2_with fail
              go_ret
              exact ⟨ret_bool HN.out.symm, bl_from Hw.out (bl_next HBU.out hB)⟩
      · have hrf : rightB p.1 = false := by simpa using hrt
        have HN := Lib.hid (NOT.out (by rw [STEP.out]; unfold resB; rw [hrf]; simp))
        clear hrt
        have hB := hB.drew
        refine region_seq (fun w' => Below U.heap.size U w') [(0, true), (1, true), (2, false), (3, true), (4, true), (5, true), (6, true), (7, true), (8, true), (9, true), (10, true), (11, true), (12, true), (13, true), (14, true), (15, true), (16, true), (17, true), (18, true), (19, true), (20, true), (21, true), (22, true), (23, true), (24, true)] (by kernel_rfl) (by kernel_rfl) (fun _ _ _ _ h => h) hB ?_
        try generalize World.drew _ = wS at hB ⊢
        refine seq_take (v := ?_) (a' := ?_) (some 16) rfl rfl (by rfl) ?_ ?_ ?_
        rotate_left; rotate_left
        · intro w' hS; go_simp; with_reducible rfl
        · simp only [Act.put, List.setIfInBounds_toArray, List.set_cons_zero, List.set_cons_succ]; rfl
        refine seq_take (v := ?_) (a' := ?_) (some 17) rfl rfl (by rfl) ?_ ?_ ?_
        rotate_left; rotate_left
        · intro w' hS; have p0 := cb hS d0; have p1 := cb hS d1; have p7 := cb hS d7; go_simp; with_reducible rfl
        · simp only [Act.put, List.setIfInBounds_toArray, List.set_cons_zero, List.set_cons_succ]; rfl
        refine seq_call (args := ?_) Try.func89 (by kernel_rfl) rfl (some 18) rfl rfl (by rfl) rfl ?_ ?_
        rotate_left
        · simp only [List.map_toArray, List.map_cons, List.map_nil]; go_simp; rfl
        with_reducible refine (right_calls _ _ (by omega)).mono ?_
        rintro e w' ⟨rfl, hb⟩
        rw [hrf]
        refine ⟨_, rfl, bl_next (by repeat (first | with_reducible exact hB | refine Below.alloc ?_ (by have := hB.size; simp; omega) _ | refine bl_dN ?_ _ | refine Below.drew ?_ | refine Below.setCell ?_ (by have := hB.size; simp; omega) _)) hb, ?_⟩
        have hB := bl_next (by repeat (first | with_reducible exact hB | refine Below.alloc ?_ (by have := hB.size; simp; omega) _ | refine bl_dN ?_ _ | refine Below.drew ?_ | refine Below.setCell ?_ (by have := hB.size; simp; omega) _)) hb; clear hb
        simp only [Act.put, List.setIfInBounds_toArray, List.set_cons_zero, List.set_cons_succ]
        refine seq_take (v := ?_) (a' := ?_) (some 19) rfl rfl (by rfl) ?_ ?_ ?_
        rotate_left; rotate_left
        · intro w' hS; go_simp; with_reducible rfl
        · simp only [Act.put, List.setIfInBounds_toArray, List.set_cons_zero, List.set_cons_succ]; rfl
        refine seq_take (v := ?_) (a' := ?_) (some 20) rfl rfl (by rfl) ?_ ?_ ?_
        rotate_left; rotate_left
        · intro w' hS; go_simp; with_reducible rfl
        · simp only [Act.put, List.setIfInBounds_toArray, List.set_cons_zero, List.set_cons_succ]; rfl
        refine seq_skip (a' := ?_) (some 21) rfl rfl (by rfl) ?_ ?_
        rotate_left
        · simp only [Act.put, List.setIfInBounds_toArray, List.set_cons_zero, List.set_cons_succ]; rfl
        refine seq_skip (a' := ?_) (some 22) rfl rfl (by rfl) ?_ ?_
        rotate_left
        · simp only [Act.put, List.setIfInBounds_toArray, List.set_cons_zero, List.set_cons_succ]; rfl
        refine seq_skip (a' := ?_) (some 23) rfl rfl (by rfl) ?_ ?_
        rotate_left
        · simp only [Act.put, List.setIfInBounds_toArray, List.set_cons_zero, List.set_cons_succ]; rfl
        refine seq_take (v := ?_) (a' := ?_) (some 24) rfl rfl (by rfl) ?_ ?_ ?_
        rotate_left; rotate_left
        · intro w' hS; go_simp; with_reducible rfl
        · simp only [Act.put, List.setIfInBounds_toArray, List.set_cons_zero, List.set_cons_succ]; rfl
        refine seq_take (v := ?_) (a' := ?_) (some 25) rfl rfl (by rfl) ?_ ?_ ?_
        rotate_left; rotate_left
        · intro w' hS; go_simp; with_reducible rfl
        · simp only [Act.put, List.setIfInBounds_toArray, List.set_cons_zero, List.set_cons_succ]; rfl
        refine seq_skip (a' := ?_) (some 26) rfl rfl (by rfl) ?_ ?_
        rotate_left
        · simp only [Act.put, List.setIfInBounds_toArray, List.set_cons_zero, List.set_cons_succ]; rfl
        refine seq_skip (a' := ?_) (some 27) rfl rfl (by rfl) ?_ ?_
        rotate_left
        · simp only [Act.put, List.setIfInBounds_toArray, List.set_cons_zero, List.set_cons_succ]; rfl
        refine seq_skip (a' := ?_) (some 28) rfl rfl (by rfl) ?_ ?_
        rotate_left
        · simp only [Act.put, List.setIfInBounds_toArray, List.set_cons_zero, List.set_cons_succ]; rfl
        refine seq_skip (a' := ?_) (some 29) rfl rfl (by rfl) ?_ ?_
        rotate_left
        · simp only [Act.put, List.setIfInBounds_toArray, List.set_cons_zero, List.set_cons_succ]; rfl
        refine seq_skip (a' := ?_) (some 30) rfl rfl (by rfl) ?_ ?_
        rotate_left
        · simp only [Act.put, List.setIfInBounds_toArray, List.set_cons_zero, List.set_cons_succ]; rfl
        refine seq_skip (a' := ?_) (some 31) rfl rfl (by rfl) ?_ ?_
        rotate_left
        · simp only [Act.put, List.setIfInBounds_toArray, List.set_cons_zero, List.set_cons_succ]; rfl
        refine seq_skip (a' := ?_) (some 32) rfl rfl (by rfl) ?_ ?_
        rotate_left
        · simp only [Act.put, List.setIfInBounds_toArray, List.set_cons_zero, List.set_cons_succ]; rfl
        refine seq_skip (a' := ?_) (some 33) rfl rfl (by rfl) ?_ ?_
        rotate_left
        · simp only [Act.put, List.setIfInBounds_toArray, List.set_cons_zero, List.set_cons_succ]; rfl
        refine seq_skip (a' := ?_) (some 34) rfl rfl (by rfl) ?_ ?_
        rotate_left
        · simp only [Act.put, List.setIfInBounds_toArray, List.set_cons_zero, List.set_cons_succ]; rfl
        refine seq_skip (a' := ?_) (some 35) rfl rfl (by rfl) ?_ ?_
        rotate_left
        · simp only [Act.put, List.setIfInBounds_toArray, List.set_cons_zero, List.set_cons_succ]; rfl
        refine seq_skip (a' := ?_) (some 36) rfl rfl (by rfl) ?_ ?_
        rotate_left
        · simp only [Act.put, List.setIfInBounds_toArray, List.set_cons_zero, List.set_cons_succ]; rfl
        refine seq_skip (a' := ?_) (some 37) rfl rfl (by rfl) ?_ ?_
        rotate_left
        · simp only [Act.put, List.setIfInBounds_toArray, List.set_cons_zero, List.set_cons_succ]; rfl
        refine seq_skip (a' := ?_) (some 38) rfl rfl (by rfl) ?_ ?_
        rotate_left
        · simp only [Act.put, List.setIfInBounds_toArray, List.set_cons_zero, List.set_cons_succ]; rfl
        refine seq_skip (a' := ?_) (some 39) rfl rfl (by rfl) ?_ ?_
        rotate_left
        · simp only [Act.put, List.setIfInBounds_toArray, List.set_cons_zero, List.set_cons_succ]; rfl
        refine seq_take (v := ?_) (a' := ?_) (some 40) rfl rfl (by rfl) ?_ ?_ ?_
        rotate_left; rotate_left
        · intro w' hS; go_simp; with_reducible rfl
        · simp only [Act.put, List.setIfInBounds_toArray, List.set_cons_zero, List.set_cons_succ]; rfl
        refine seq_done ?_
        go_wp2_with fail
        go_ret
        exact ⟨ret_bool HN.out.symm, bl_from Hw.out (bl_next HBU.out hB)⟩
    · obtain rfl : k = l.length := by omega
      have hR := HR.out
      rw [List.take_length] at hR
      have HE := Lib.hid (show rightO ⟨⟨kk, ks, kn⟩, ver, cls, term, best, chg⟩ = (keyOk ⟨kk, ks, kn⟩ && decide (1 ≤ ver) && clsB cls && decide (l.length ≤ 16)) by rw [HO.out, hR]; simp)
      clear hR
      have HKO := Lib.hid (show keyB kk ks kn = keyOk ⟨kk, ks, kn⟩ from rfl)
      obtain ⟨ko, hko⟩ : ∃ b, keyOk ⟨kk, ks, kn⟩ = b := ⟨_, rfl⟩
      rw [hko] at HKO HE
      have hce : cls.toList = [] ↔ cls = ⟨#[]⟩ := ⟨fun e => ba_eq.1 (by rw [e, empty_list]), fun e => by rw [e, empty_list]⟩
      clear hko
      cases ko with
      | false =>
        go_wp2_with (go_at_call 70; refine (key_calls _ _ _ _ (by omega) (by omega) (by omega)).mono ?_; rintro e w' ⟨rfl, hb⟩; rw [HKO.out]; have HBq := Lib.hid (bl_next HBr.out hb); clear hb; have k0_0 := cb HBq.out c0_0; have k0_1 := cb HBq.out c0_1; have k0_2 := cb HBq.out c0_2; have k0_3 := cb HBq.out c0_3; have k0_4 := cb HBq.out c0_4; have k0_5 := cb HBq.out c0_5; have k0_6 := cb HBq.out c0_6; have k0_7 := cb HBq.out c0_7)
        go_ret
        exact ⟨ret_bool (by rw [HE.out]; simp), bl_from Hw.out HBq.out⟩
      | true =>
        by_cases hver : 1 ≤ ver
        · by_cases hcls : cls = ⟨#[]⟩
          · have hc1 : cls.toList = [] := hce.2 hcls
            have HCB := Lib.hid (show clsB cls = true by unfold clsB; rw [decide_eq_true hcls]; rfl)
            clear hce hcls
            by_cases h16 : l.length ≤ 16
            · have h16I : (l.length : Int) ≤ 16 := by omega
              go_wp2_with (go_at_call 70; refine (key_calls _ _ _ _ (by omega) (by omega) (by omega)).mono ?_; rintro e w' ⟨rfl, hb⟩; rw [HKO.out]; have HBq := Lib.hid (bl_next HBr.out hb); clear hb; have k0_0 := cb HBq.out c0_0; have k0_1 := cb HBq.out c0_1; have k0_2 := cb HBq.out c0_2; have k0_3 := cb HBq.out c0_3; have k0_4 := cb HBq.out c0_4; have k0_5 := cb HBq.out c0_5; have k0_6 := cb HBq.out c0_6; have k0_7 := cb HBq.out c0_7)
              go_ret
              exact ⟨ret_bool (by rw [HE.out, HCB.out, decide_eq_true hver, decide_eq_true h16]; rfl), bl_from Hw.out HBq.out⟩
            · have h16I : (16 : Int) < l.length := by omega
              go_wp2_with (go_at_call 70; refine (key_calls _ _ _ _ (by omega) (by omega) (by omega)).mono ?_; rintro e w' ⟨rfl, hb⟩; rw [HKO.out]; have HBq := Lib.hid (bl_next HBr.out hb); clear hb; have k0_0 := cb HBq.out c0_0; have k0_1 := cb HBq.out c0_1; have k0_2 := cb HBq.out c0_2; have k0_3 := cb HBq.out c0_3; have k0_4 := cb HBq.out c0_4; have k0_5 := cb HBq.out c0_5; have k0_6 := cb HBq.out c0_6; have k0_7 := cb HBq.out c0_7)
              go_ret
              exact ⟨ret_bool (by rw [HE.out, HCB.out, decide_eq_true hver, decide_eq_false (p := l.length ≤ 16) (by omega)]; simp; omega), bl_from Hw.out HBq.out⟩
          · have hc1 : ¬ cls.toList = [] := fun e => hcls (hce.1 e)
            have hc2 : (cls.toList == []) = false := by simpa using hc1
            have hc3 : cls.toList.isEmpty = false := by simpa using hc1
            have HCB := Lib.hid (show clsB cls = rightB cls by unfold clsB; rw [decide_eq_false hcls]; rfl)
            obtain ⟨rc, hrc⟩ : ∃ b, rightB cls = b := ⟨_, rfl⟩
            have HRC := Lib.hid hrc
            rw [hrc] at HCB
            clear hce hcls hrc
            cases rc with
            | false =>
              go_wp2_with (first | (go_at_call 70; refine (key_calls _ _ _ _ (by omega) (by omega) (by omega)).mono ?_; rintro e w' ⟨rfl, hb⟩; rw [HKO.out]; have HBq := Lib.hid (bl_next HBr.out hb); clear hb; have k0_0 := cb HBq.out c0_0; have k0_1 := cb HBq.out c0_1; have k0_2 := cb HBq.out c0_2; have k0_3 := cb HBq.out c0_3; have k0_4 := cb HBq.out c0_4; have k0_5 := cb HBq.out c0_5; have k0_6 := cb HBq.out c0_6; have k0_7 := cb HBq.out c0_7) | (go_at_call 89; refine (right_calls _ _ (by omega)).mono ?_; rintro e w' ⟨rfl, hb⟩; rw [HRC.out]; have HBr := HBq; have HBq := Lib.hid (bl_next HBr.out hb); clear hb; have k0_0 := cb HBq.out c0_0; have k0_1 := cb HBq.out c0_1; have k0_2 := cb HBq.out c0_2; have k0_3 := cb HBq.out c0_3; have k0_4 := cb HBq.out c0_4; have k0_5 := cb HBq.out c0_5; have k0_6 := cb HBq.out c0_6; have k0_7 := cb HBq.out c0_7))
              go_ret
              exact ⟨ret_bool (by rw [HE.out, HCB.out]; simp), bl_from Hw.out HBq.out⟩
            | true =>
              by_cases h16 : l.length ≤ 16
              · have h16I : (l.length : Int) ≤ 16 := by omega
                go_wp2_with (first | (go_at_call 70; refine (key_calls _ _ _ _ (by omega) (by omega) (by omega)).mono ?_; rintro e w' ⟨rfl, hb⟩; rw [HKO.out]; have HBq := Lib.hid (bl_next HBr.out hb); clear hb; have k0_0 := cb HBq.out c0_0; have k0_1 := cb HBq.out c0_1; have k0_2 := cb HBq.out c0_2; have k0_3 := cb HBq.out c0_3; have k0_4 := cb HBq.out c0_4; have k0_5 := cb HBq.out c0_5; have k0_6 := cb HBq.out c0_6; have k0_7 := cb HBq.out c0_7) | (go_at_call 89; refine (right_calls _ _ (by omega)).mono ?_; rintro e w' ⟨rfl, hb⟩; rw [HRC.out]; have HBr := HBq; have HBq := Lib.hid (bl_next HBr.out hb); clear hb; have k0_0 := cb HBq.out c0_0; have k0_1 := cb HBq.out c0_1; have k0_2 := cb HBq.out c0_2; have k0_3 := cb HBq.out c0_3; have k0_4 := cb HBq.out c0_4; have k0_5 := cb HBq.out c0_5; have k0_6 := cb HBq.out c0_6; have k0_7 := cb HBq.out c0_7))
                go_ret
                exact ⟨ret_bool (by rw [HE.out, HCB.out, decide_eq_true hver, decide_eq_true h16]; rfl), bl_from Hw.out HBq.out⟩
              · have h16I : (16 : Int) < l.length := by omega
                go_wp2_with (first | (go_at_call 70; refine (key_calls _ _ _ _ (by omega) (by omega) (by omega)).mono ?_; rintro e w' ⟨rfl, hb⟩; rw [HKO.out]; have HBq := Lib.hid (bl_next HBr.out hb); clear hb; have k0_0 := cb HBq.out c0_0; have k0_1 := cb HBq.out c0_1; have k0_2 := cb HBq.out c0_2; have k0_3 := cb HBq.out c0_3; have k0_4 := cb HBq.out c0_4; have k0_5 := cb HBq.out c0_5; have k0_6 := cb HBq.out c0_6; have k0_7 := cb HBq.out c0_7) | (go_at_call 89; refine (right_calls _ _ (by omega)).mono ?_; rintro e w' ⟨rfl, hb⟩; rw [HRC.out]; have HBr := HBq; have HBq := Lib.hid (bl_next HBr.out hb); clear hb; have k0_0 := cb HBq.out c0_0; have k0_1 := cb HBq.out c0_1; have k0_2 := cb HBq.out c0_2; have k0_3 := cb HBq.out c0_3; have k0_4 := cb HBq.out c0_4; have k0_5 := cb HBq.out c0_5; have k0_6 := cb HBq.out c0_6; have k0_7 := cb HBq.out c0_7))
                go_ret
                exact ⟨ret_bool (by rw [HE.out, HCB.out, decide_eq_true hver, decide_eq_false (p := l.length ≤ 16) (by omega)]; simp; omega), bl_from Hw.out HBq.out⟩
        · have hverI : ver < 1 := by omega
          go_wp2_with (go_at_call 70; refine (key_calls _ _ _ _ (by omega) (by omega) (by omega)).mono ?_; rintro e w' ⟨rfl, hb⟩; rw [HKO.out]; have HBq := Lib.hid (bl_next HBr.out hb); clear hb; have k0_0 := cb HBq.out c0_0; have k0_1 := cb HBq.out c0_1; have k0_2 := cb HBq.out c0_2; have k0_3 := cb HBq.out c0_3; have k0_4 := cb HBq.out c0_4; have k0_5 := cb HBq.out c0_5; have k0_6 := cb HBq.out c0_6; have k0_7 := cb HBq.out c0_7)
          go_ret
          exact ⟨ret_bool (by rw [HE.out, decide_eq_false (p := 1 ≤ ver) (by omega)]; simp), bl_from Hw.out HBq.out⟩
end Go.Proofs.Ythhfcambdmdgfaa
namespace Go.Proofs.Ythhfcambdmdgfaa
open Go.RowKit
set_option linter.unusedVariables false
set_option linter.unusedSimpArgs false
theorem addr_add (g off j : Nat) : (⟨g, off, none⟩ : Addr).add j = ⟨g, off + j, none⟩ := by unfold Addr.add; split <;> simp_all
theorem setRow_kept {w : World} {g : Nat} {cur : Array Value} {T : TypeId} (h : w.heap[g]? = some (.cells cur T)) (cs : Array Value) : (w.setRow g cs).heap[g]? = some (.cells cs T) ∧ Kept (fun k => k = g) w (w.setRow g cs) := by
  refine ⟨setRow_heap w g cur cs T _ h, ?_⟩
  exact ⟨rfl, rfl, rfl, by simp [World.setRow], fun k hk hx => setRow_other w g k cs hx⟩
theorem run_copy_all {P : Program} (w : World) (t ty elem : TypeId) (i : TypeInfo) (sz : Nat) (hu : P.underlying t = some (.slice elem)) (hi : P.info? elem = some i) (hsize : i.size = sz) (g n : Nat) (cur : Array Value) (T : TypeId)
    (hg : w.heap[g]? = some (.cells cur T)) (hcur : cur.size = n * sz) (u : Value) (cs : List Value) (hr : SliS w u sz n cs) (h1 : ∀ y ∈ cs, y.oneCell' = true) :
    ∃ w', (Builtin.copy_ #[t, t] ty #[.slice (some ⟨g, 0, none⟩) n n, u]).run P w = .ok (goInt n) w' ∧ w'.heap[g]? = some (.cells cs.toArray T) ∧ Kept (fun k => k = g) w w' := by
  obtain ⟨hl, A, c, rfl, hc, hx⟩ := hr
  cases A with
  | none =>
    have hn : n = 0 := by
      rcases hx with h | ⟨b, off, h, _⟩
      · exact h
      · cases h
    subst hn
    obtain rfl : cs = [] := List.eq_nil_of_length_eq_zero (by simpa using hl)
    refine ⟨w, ?_, ?_, Kept.refl _ _⟩
    · simp [Builtin.copy_, run_underlying hu, Builtin.lenOf, Builtin.firstCells, sizeOf, typeInfo, hi, storeCells]
    · rw [hg]; congr 2; exact Array.eq_empty_of_size_eq_zero (by simpa using hcur)
  | some ad =>
    have hsrc : ∀ j y, cs[j]? = some y → w.cell? (ad.add j) = some y := fun j y hj => by
      rcases hx with h | ⟨b, off, h, hx⟩
      · subst h
        obtain rfl : cs = [] := List.eq_nil_of_length_eq_zero (by simpa using hl)
        simp at hj
      · cases h
        rw [addr_add]; exact hx j y hj
    have hld := run_loadCells_list (P := P) w ad cs hsrc
    have hst := run_storeCells_at P g 0 T cs 0 cur w hg (by omega) h1
    obtain ⟨k1, k2⟩ := setRow_kept hg cs.toArray
    have e : (cur.toList.take (0 + 0) ++ cs ++ cur.toList.drop (0 + 0 + cs.length)).toArray = cs.toArray := by
      rw [List.drop_of_length_le (by simp; omega)]; simp
    refine ⟨w.setRow g cs.toArray, ?_, k1, k2⟩
    rw [e] at hst
    simp [Builtin.copy_, run_underlying hu, Builtin.lenOf, Builtin.firstCells, sizeOf, typeInfo, hi, hsize, hc, ← hl, hld, hst]
end Go.Proofs.Ythhfcambdmdgfaa
namespace Go.Proofs.Ythhfcambdmdgfaa
open Go.RowKit Go.Maps
set_option linter.unusedVariables false
set_option linter.unusedSimpArgs false
theorem info_res : (Try.prog.info? 112).map (fun i => (i.zero, i.size, i.bytes)) = some (some (.agg #[.string ⟨#[]⟩, .int .i64 0]), 2, 24) := by kernel_rfl
/-- A fresh list of resources: in blocks from b on. -/
def ResF (w : World) (b : Nat) (x : Value) (l : Res) : Prop := ∃ g, b ≤ g ∧ x = .slice (some ⟨g, 0, none⟩) l.length l.length ∧ w.heap[g]? = some (.cells (resC l).toArray 112)
theorem ResF.resS {w : World} {b : Nat} {x : Value} {l : Res} (h : ResF w b x l) (hi : ∀ p ∈ l, in64 p.2) : ResS w x l := by
  obtain ⟨g, _, rfl, hg⟩ := h
  exact ⟨sliS_lit hg (resC_len l), hi⟩
theorem Kept.frozen {X : Nat → Prop} {w w' : World} (h : Kept X w w') {a : Addr} (hl : a.block < w.heap.size) (hx : ¬ X a.block) (hf : w.frozen? a = false) : w'.frozen? a = false := by
  rw [World.frozen?_of_block (h.block a.block hl hx)]; exact hf
set_option maxRecDepth 100000 in
set_option maxHeartbeats 8000000 in
theorem own_calls (w : World) {sl : Value} {o : ObjD} (h : ObjS w sl o) (hl : o.charge.length ≤ 100000) :
    Calls Try.prog 56 #[objV o sl] w fun e w' => ∃ x, e = .returned (objV o x) ∧ ResF w' w.heap.size x o.charge ∧ Below w.heap.size w w' := by
  have hB := Below.refl w.heap.size w
  have H := Lib.hid h.1
  obtain ⟨al, cl, rfl⟩ := h.1.form
  have hin := Lib.hid h.1.2
  clear h
  obtain ⟨l, hl'⟩ : ∃ l, o.charge = l := ⟨_, rfl⟩
  rw [hl'] at H hl hin ⊢
  clear hl'
  obtain ⟨⟨kk, ks, kn⟩, ver, cls, term, best, chg⟩ := o
  obtain ⟨i0, hi, hz0, hz1, hz2⟩ := info_parts info_res
  unfold objV
  simp only
  go_enter Try.func56, Try.ntmps56
  go_upto_region 1 with fail
  first | with_reducible refine name_wp ?_ | with_reducible refine name_calls ?_
  intro W hWeq
  have g0 : W.heap[w.heap.size]? = some (.cells #[.string kk, .string ks, .string kn, .int .i64 ver, .string cls, .bool term, .bool best, .slice al l.length cl] 27) := by rw [hWeq]; repeat (first | (with_reducible exact blk_newAt _ _ (by simp)) | with_reducible refine blk_drew ?_ | with_reducible refine blk_dN ?_ _ | with_reducible refine blk_old ?_ _)
  have g1 : W.heap[w.heap.size + 1]? = some (.cells #[.string ⟨#[]⟩, .string ⟨#[]⟩, .string ⟨#[]⟩, .int .i64 0, .string ⟨#[]⟩, .bool false, .bool false, .slice none 0 0] 27) := by rw [hWeq]; repeat (first | (with_reducible exact blk_newAt _ _ (by simp)) | with_reducible refine blk_drew ?_ | with_reducible refine blk_dN ?_ _ | with_reducible refine blk_old ?_ _)
  have hw : Below w.heap.size w W := by rw [hWeq]; repeat (first | with_reducible exact Below.refl _ _ | with_reducible refine Below.drew ?_ | with_reducible refine bl_dN ?_ _ | with_reducible refine Below.alloc ?_ (by simp <;> omega) _)
  clear hWeq
  have hz : w.heap.size + 2 ≤ W.heap.size := by have := blk_lt g1; omega
  have c0_0 : W.cell? ⟨w.heap.size, 0, none⟩ = some (.string kk) := blk_cell g0 0
  have c0_1 : W.cell? ⟨w.heap.size, 1, none⟩ = some (.string ks) := blk_cell g0 1
  have c0_2 : W.cell? ⟨w.heap.size, 2, none⟩ = some (.string kn) := blk_cell g0 2
  have c0_3 : W.cell? ⟨w.heap.size, 3, none⟩ = some (.int .i64 ver) := blk_cell g0 3
  have c0_4 : W.cell? ⟨w.heap.size, 4, none⟩ = some (.string cls) := blk_cell g0 4
  have c0_5 : W.cell? ⟨w.heap.size, 5, none⟩ = some (.bool term) := blk_cell g0 5
  have c0_6 : W.cell? ⟨w.heap.size, 6, none⟩ = some (.bool best) := blk_cell g0 6
  have c0_7 : W.cell? ⟨w.heap.size, 7, none⟩ = some (.slice al l.length cl) := blk_cell g0 7
  have f0 : ∀ j, W.frozen? ⟨w.heap.size, j, none⟩ = false := blk_free g0
  have c1_0 : W.cell? ⟨w.heap.size + 1, 0, none⟩ = some (.string ⟨#[]⟩) := blk_cell g1 0
  have c1_1 : W.cell? ⟨w.heap.size + 1, 1, none⟩ = some (.string ⟨#[]⟩) := blk_cell g1 1
  have c1_2 : W.cell? ⟨w.heap.size + 1, 2, none⟩ = some (.string ⟨#[]⟩) := blk_cell g1 2
  have c1_3 : W.cell? ⟨w.heap.size + 1, 3, none⟩ = some (.int .i64 0) := blk_cell g1 3
  have c1_4 : W.cell? ⟨w.heap.size + 1, 4, none⟩ = some (.string ⟨#[]⟩) := blk_cell g1 4
  have c1_5 : W.cell? ⟨w.heap.size + 1, 5, none⟩ = some (.bool false) := blk_cell g1 5
  have c1_6 : W.cell? ⟨w.heap.size + 1, 6, none⟩ = some (.bool false) := blk_cell g1 6
  have c1_7 : W.cell? ⟨w.heap.size + 1, 7, none⟩ = some (.slice none 0 0) := blk_cell g1 7
  have f1 : ∀ j, W.frozen? ⟨w.heap.size + 1, j, none⟩ = false := blk_free g1
  have hB : Below W.heap.size W W := Below.refl _ _
  have G0 := Lib.hid g0; clear g0
  have F0 := Lib.hid f0; clear f0
  have G1 := Lib.hid g1; clear g1
  have F1 := Lib.hid f1; clear f1
  have Hw := Lib.hid hw; clear hw
  have HW := Lib.hid (H.out.below Hw.out)
  have hWw := Hw.out.size
  have hmk : ∀ W : World, (Instr.makeSlice 25 (.int .i64 (l.length : Int)) (.int .i64 (l.length : Int))).run Try.prog W = .ok (.slice (some ⟨W.heap.size, 0, none⟩) l.length l.length) (W.alloc (.cells (madeCells (Value.agg #[.string ⟨#[]⟩, .int .i64 0]).cells (l.length * 2)) 112)) := fun W => by
    have h := run_makeSlice W 25 112 i0 _ Try.underlying25 hi hz0 .i64 .i64 (l.length : Int) (l.length : Int) (by omega) (Int.le_refl _) (by rw [hz1]; simp; omega) (by rw [hz2]; omega) (by omega)
    rw [hz1] at h
    simpa using h
  have HI := Lib.hid (And.intro hi hz1)
  clear hi hz0 hz1 hz2
  go_upto_region 2 with fail
  clear hmk
  obtain ⟨W2, hW2⟩ : ∃ W2, W2 = W.alloc (.cells (madeCells (Value.agg #[.string ⟨#[]⟩, .int .i64 0]).cells (l.length * 2)) 112) := ⟨_, rfl⟩
  have hb2 : Below W.heap.size W W2 := by rw [hW2]; exact (Below.refl _ _).alloc (Nat.le_refl _) _
  have hg2 : W2.heap[W.heap.size]? = some (.cells (madeCells (Value.agg #[.string ⟨#[]⟩, .int .i64 0]).cells (l.length * 2)) 112) := by rw [hW2]; exact blk_new W _
  have hshow : W.alloc (.cells (madeCells #[.string ⟨#[]⟩, .int .i64 0] (l.length * 2)) 112) = W2 := by rw [hW2]; rfl
  rw [hshow]
  clear hW2 hshow
  obtain ⟨w3, hrun, hg3, hk3⟩ := run_copy_all (P := Try.prog) W2 25 3 112 i0 2 Try.underlying25 HI.out.1 HI.out.2 W.heap.size l.length _ _ hg2 (size_madeCells _ _) _ (resC l) (HW.out.below hb2).1 (resC_one l)
  have d0_0 := cb hb2 c0_0
  have d0_1 := cb hb2 c0_1
  have d0_2 := cb hb2 c0_2
  have d0_3 := cb hb2 c0_3
  have d0_4 := cb hb2 c0_4
  have d0_5 := cb hb2 c0_5
  have d0_6 := cb hb2 c0_6
  have d0_7 := cb hb2 c0_7
  have d1_0 := cb hb2 c1_0
  have d1_1 := cb hb2 c1_1
  have d1_2 := cb hb2 c1_2
  have d1_3 := cb hb2 c1_3
  have d1_4 := cb hb2 c1_4
  have d1_5 := cb hb2 c1_5
  have d1_6 := cb hb2 c1_6
  have d1_7 := cb hb2 c1_7
  have e0_0 := fb hb2 (lt_of_cell c0_0) (F0.out 0)
  have e0_1 := fb hb2 (lt_of_cell c0_1) (F0.out 1)
  have e0_2 := fb hb2 (lt_of_cell c0_2) (F0.out 2)
  have e0_3 := fb hb2 (lt_of_cell c0_3) (F0.out 3)
  have e0_4 := fb hb2 (lt_of_cell c0_4) (F0.out 4)
  have e0_5 := fb hb2 (lt_of_cell c0_5) (F0.out 5)
  have e0_6 := fb hb2 (lt_of_cell c0_6) (F0.out 6)
  have e0_7 := fb hb2 (lt_of_cell c0_7) (F0.out 7)
  have e1_0 := fb hb2 (lt_of_cell c1_0) (F1.out 0)
  have e1_1 := fb hb2 (lt_of_cell c1_1) (F1.out 1)
  have e1_2 := fb hb2 (lt_of_cell c1_2) (F1.out 2)
  have e1_3 := fb hb2 (lt_of_cell c1_3) (F1.out 3)
  have e1_4 := fb hb2 (lt_of_cell c1_4) (F1.out 4)
  have e1_5 := fb hb2 (lt_of_cell c1_5) (F1.out 5)
  have e1_6 := fb hb2 (lt_of_cell c1_6) (F1.out 6)
  have e1_7 := fb hb2 (lt_of_cell c1_7) (F1.out 7)
  have hlt0 := blk_lt G0.out; have hlt1 := blk_lt G1.out
  have k0_0 := hk3.cell d0_0 (by show ¬ (_ = W.heap.size); simp only; omega)
  have k0_1 := hk3.cell d0_1 (by show ¬ (_ = W.heap.size); simp only; omega)
  have k0_2 := hk3.cell d0_2 (by show ¬ (_ = W.heap.size); simp only; omega)
  have k0_3 := hk3.cell d0_3 (by show ¬ (_ = W.heap.size); simp only; omega)
  have k0_4 := hk3.cell d0_4 (by show ¬ (_ = W.heap.size); simp only; omega)
  have k0_5 := hk3.cell d0_5 (by show ¬ (_ = W.heap.size); simp only; omega)
  have k0_6 := hk3.cell d0_6 (by show ¬ (_ = W.heap.size); simp only; omega)
  have k0_7 := hk3.cell d0_7 (by show ¬ (_ = W.heap.size); simp only; omega)
  have k1_0 := hk3.cell d1_0 (by show ¬ (_ = W.heap.size); simp only; omega)
  have k1_1 := hk3.cell d1_1 (by show ¬ (_ = W.heap.size); simp only; omega)
  have k1_2 := hk3.cell d1_2 (by show ¬ (_ = W.heap.size); simp only; omega)
  have k1_3 := hk3.cell d1_3 (by show ¬ (_ = W.heap.size); simp only; omega)
  have k1_4 := hk3.cell d1_4 (by show ¬ (_ = W.heap.size); simp only; omega)
  have k1_5 := hk3.cell d1_5 (by show ¬ (_ = W.heap.size); simp only; omega)
  have k1_6 := hk3.cell d1_6 (by show ¬ (_ = W.heap.size); simp only; omega)
  have k1_7 := hk3.cell d1_7 (by show ¬ (_ = W.heap.size); simp only; omega)
  have f0_0 : w3.frozen? ⟨w.heap.size, 0, none⟩ = false := hk3.frozen (lt_of_cell d0_0) (by show ¬ (_ = W.heap.size); simp only; omega) e0_0
  have f0_1 : w3.frozen? ⟨w.heap.size, 1, none⟩ = false := hk3.frozen (lt_of_cell d0_1) (by show ¬ (_ = W.heap.size); simp only; omega) e0_1
  have f0_2 : w3.frozen? ⟨w.heap.size, 2, none⟩ = false := hk3.frozen (lt_of_cell d0_2) (by show ¬ (_ = W.heap.size); simp only; omega) e0_2
  have f0_3 : w3.frozen? ⟨w.heap.size, 3, none⟩ = false := hk3.frozen (lt_of_cell d0_3) (by show ¬ (_ = W.heap.size); simp only; omega) e0_3
  have f0_4 : w3.frozen? ⟨w.heap.size, 4, none⟩ = false := hk3.frozen (lt_of_cell d0_4) (by show ¬ (_ = W.heap.size); simp only; omega) e0_4
  have f0_5 : w3.frozen? ⟨w.heap.size, 5, none⟩ = false := hk3.frozen (lt_of_cell d0_5) (by show ¬ (_ = W.heap.size); simp only; omega) e0_5
  have f0_6 : w3.frozen? ⟨w.heap.size, 6, none⟩ = false := hk3.frozen (lt_of_cell d0_6) (by show ¬ (_ = W.heap.size); simp only; omega) e0_6
  have f0_7 : w3.frozen? ⟨w.heap.size, 7, none⟩ = false := hk3.frozen (lt_of_cell d0_7) (by show ¬ (_ = W.heap.size); simp only; omega) e0_7
  have f1_0 : w3.frozen? ⟨w.heap.size + 1, 0, none⟩ = false := hk3.frozen (lt_of_cell d1_0) (by show ¬ (_ = W.heap.size); simp only; omega) e1_0
  have f1_1 : w3.frozen? ⟨w.heap.size + 1, 1, none⟩ = false := hk3.frozen (lt_of_cell d1_1) (by show ¬ (_ = W.heap.size); simp only; omega) e1_1
  have f1_2 : w3.frozen? ⟨w.heap.size + 1, 2, none⟩ = false := hk3.frozen (lt_of_cell d1_2) (by show ¬ (_ = W.heap.size); simp only; omega) e1_2
  have f1_3 : w3.frozen? ⟨w.heap.size + 1, 3, none⟩ = false := hk3.frozen (lt_of_cell d1_3) (by show ¬ (_ = W.heap.size); simp only; omega) e1_3
  have f1_4 : w3.frozen? ⟨w.heap.size + 1, 4, none⟩ = false := hk3.frozen (lt_of_cell d1_4) (by show ¬ (_ = W.heap.size); simp only; omega) e1_4
  have f1_5 : w3.frozen? ⟨w.heap.size + 1, 5, none⟩ = false := hk3.frozen (lt_of_cell d1_5) (by show ¬ (_ = W.heap.size); simp only; omega) e1_5
  have f1_6 : w3.frozen? ⟨w.heap.size + 1, 6, none⟩ = false := hk3.frozen (lt_of_cell d1_6) (by show ¬ (_ = W.heap.size); simp only; omega) e1_6
  have f1_7 : w3.frozen? ⟨w.heap.size + 1, 7, none⟩ = false := hk3.frozen (lt_of_cell d1_7) (by show ¬ (_ = W.heap.size); simp only; omega) e1_7
  have hw3 : w.heap.size + 1 < w3.heap.size := by have := hk3.size; have := hb2.size; omega
  go_wp2_with (at_builtin; refine Lib.wpList_copy_run _ rfl (.tmp 8) (.tmp 10) _ _ rfl _ _ rfl rfl hrun ?_)
  clear hrun
  refine name_body ?_
  intro U hU
  have hb3 : Below w.heap.size w w3 := (Hw.out.trans (hb2.mono hWw)).trans (hk3.below (B := w.heap.size) (by have := hb2.size; omega) (fun k e => by rw [e]; exact hWw))
  have hbU : Below w.heap.size w U := by
    rw [hU]
    repeat (refine Below.setCell ?_ (by simp) _)
    exact hb3
  have hgU : U.heap[W.heap.size]? = some (.cells (resC l).toArray 112) := by
    rw [hU]
    repeat (refine (Below.heap_setCell _ _ _ _ (by simp only; omega)).trans ?_)
    exact hg3
  have r0 : U.cell? ⟨w.heap.size + 1, 0, none⟩ = some (.string kk) := by rw [hU]; go_simp
  have r1 : U.cell? ⟨w.heap.size + 1, 1, none⟩ = some (.string ks) := by rw [hU]; go_simp
  have r2 : U.cell? ⟨w.heap.size + 1, 2, none⟩ = some (.string kn) := by rw [hU]; go_simp
  have r3 : U.cell? ⟨w.heap.size + 1, 3, none⟩ = some (.int .i64 ver) := by rw [hU]; go_simp
  have r4 : U.cell? ⟨w.heap.size + 1, 4, none⟩ = some (.string cls) := by rw [hU]; go_simp
  have r5 : U.cell? ⟨w.heap.size + 1, 5, none⟩ = some (.bool term) := by rw [hU]; go_simp
  have r6 : U.cell? ⟨w.heap.size + 1, 6, none⟩ = some (.bool best) := by rw [hU]; go_simp
  have r7 : U.cell? ⟨w.heap.size + 1, 7, none⟩ = some (.slice (some ⟨W.heap.size, 0, none⟩) l.length l.length) := by rw [hU]; go_simp
  clear hU
  refine bodyPost_ret (v := .agg #[.string kk, .string ks, .string kn, .int .i64 ver, .string cls, .bool term, .bool best, .slice (some ⟨W.heap.size, 0, none⟩) l.length l.length])
    (by simp [results, Try.results56, go_sem, r0, r1, r2, r3, r4, r5, r6, r7]) rfl ⟨_, rfl, ⟨W.heap.size, hWw, rfl, hgU⟩, hbU⟩
end Go.Proofs.Ythhfcambdmdgfaa

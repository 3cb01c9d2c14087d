import Derived.Test.YtdcceaafiammfaaLawa
import Derived.Test.YtdcceaafiammfaaSeq
import Derived.Test.YtdcceaafiammfaaPlb
import Derived.Test.YtdcceaafiammfaaKinds
namespace Go.Proofs.Ytdcceaafiammfaa
open Go.RowKit
def shortB (k s n : ByteArray) : Bool := decide (k.size ≤ 200) && decide (s.size ≤ 200) && decide (n.size ≤ 200)
theorem short_calls (k s n : ByteArray) (w : World) :
    Calls Try.prog 26 #[.agg #[.string k, .string s, .string n]] w fun e w' => e = .returned (.bool (shortB k s n)) ∧ Below w.heap.size w w' := by
  by_cases h1 : k.size ≤ 200 <;> by_cases h2 : s.size ≤ 200 <;> by_cases h3 : n.size ≤ 200
  all_goals
    go_enter Try.func26, Try.ntmps26
    go_wp2
    go_ret
    exact ⟨ret_bool (by simp [shortB, *] <;> omega), by (repeat (first | exact Below.refl _ _ | exact hw0 | refine Below.setCell ?_ (by simp) _ | refine Below.alloc ?_ (by simp) _ | refine bl_dN ?_ _ | refine Below.drew ?_))⟩
def th3 (a b c : Key) (i : Nat) : Key := if i = 0 then a else if i = 1 then b else c
def Key.text (x : Key) : ByteArray := keyText x.k x.s x.n
def Key.ok (x : Key) : Bool := keyB x.k x.s x.n
def Key.lt (x y : Key) : Bool := Op.bytesLess x.text.toList y.text.toList
def Key.short (x : Key) : Bool := shortB x.k x.s x.n
theorem Key.short_sz {x : Key} (h : x.short = true) : x.k.size ≤ 200 ∧ x.s.size ≤ 200 ∧ x.n.size ≤ 200 := by simpa [Key.short, shortB, and_assoc] using h
theorem keyOrder1 (x y : Key) : (x.lt y && y.lt x) = false := by
  cases h : x.lt y with
  | false => rfl
  | true => exact bl_asymm _ _ h
theorem keyOrder2 (x y : Key) (hx : x.ok = true) (hy : y.ok = true) (hn : ¬ (x.k = y.k ∧ x.s = y.s ∧ x.n = y.n)) (h1 : x.lt y = false) : y.lt x = true := by
  refine bl_total _ _ (fun e => hn ?_) h1
  rw [Lib.toList_data, Lib.toList_data] at e
  exact keyText_inj hx hy (ba_ext e)
theorem keyOrder3 (x y z : Key) (h1 : x.lt y = true) (h2 : y.lt z = true) : x.lt z = true := blt_trans _ _ _ h1 h2
theorem lo_close (x y : Key) (hx : keyB x.k x.s x.n = true) (hy : keyB y.k y.s y.n = true) (h1 : ¬ Op.bytesLess (keyText x.k x.s x.n).toList (keyText y.k y.s y.n).toList = true)
    (hn : ¬ x.k.toList = y.k.toList ∨ ¬ x.s.toList = y.s.toList ∨ ¬ x.n.toList = y.n.toList) : (!Op.bytesLess (keyText y.k y.s y.n).toList (keyText x.k x.s x.n).toList) = false := by
  have h := keyOrder2 x y hx hy (by rintro ⟨e1, e2, e3⟩; rw [e1, e2, e3] at hn; simp at hn) (by simpa [Key.lt, Key.text] using h1)
  simp only [Key.lt, Key.text] at h
  rw [h]; rfl
set_option maxHeartbeats 4000000 in
set_option maxRecDepth 100000 in
theorem labelOrderWalk (y : Key × Key × Key) (c : List Value) {W : World} (h : (kPair kKey (kPair kKey kKey)).K W anyB y c) : Calls Try.prog 8 #[.agg c.toArray] W fun e w' => e = .returned (.bool true) ∧ Below W.heap.size W w' := by
  obtain ⟨ka, kb, kc⟩ := y
  obtain ⟨c0, c1, rfl, h0, c2, c3, rfl, h2, h3⟩ := h
  rw [kKey_cs h0, kKey_cs h2, kKey_cs h3]
  clear h0 h2 h3
  obtain ⟨w, rfl⟩ : ∃ w, w = W := ⟨_, rfl⟩
  go_enter Try.func8, Try.ntmps8
  go_wp2_with fail
  first | with_reducible refine name_wp ?_ | with_reducible refine name_calls ?_
  intro W hWeq
  have g0 : W.heap[w.heap.size]? = some (.cells #[.string ka.k, .string ka.s, .string ka.n, .string kb.k, .string kb.s, .string kb.n, .string kc.k, .string kc.s, .string kc.n] 53) := by rw [hWeq]; repeat (first | exact blk_newAt _ _ (by simp) | refine blk_old ?_ _ | refine blk_dN ?_ _ | refine blk_drew ?_)
  have hw : Below w.heap.size w W := by rw [hWeq]; repeat (first | exact Below.refl _ _ | refine Below.alloc ?_ (by simp) _ | refine bl_dN ?_ _ | refine Below.drew ?_)
  clear hWeq
  have hz : w.heap.size + 1 ≤ W.heap.size := by have := blk_lt g0; omega
  have c0_0 : W.cell? ⟨w.heap.size, 0, none⟩ = some (.string ka.k) := blk_cell g0 0
  have c0_1 : W.cell? ⟨w.heap.size, 1, none⟩ = some (.string ka.s) := blk_cell g0 1
  have c0_2 : W.cell? ⟨w.heap.size, 2, none⟩ = some (.string ka.n) := blk_cell g0 2
  have c0_3 : W.cell? ⟨w.heap.size, 3, none⟩ = some (.string kb.k) := blk_cell g0 3
  have c0_4 : W.cell? ⟨w.heap.size, 4, none⟩ = some (.string kb.s) := blk_cell g0 4
  have c0_5 : W.cell? ⟨w.heap.size, 5, none⟩ = some (.string kb.n) := blk_cell g0 5
  have c0_6 : W.cell? ⟨w.heap.size, 6, none⟩ = some (.string kc.k) := blk_cell g0 6
  have c0_7 : W.cell? ⟨w.heap.size, 7, none⟩ = some (.string kc.s) := blk_cell g0 7
  have c0_8 : W.cell? ⟨w.heap.size, 8, none⟩ = some (.string kc.n) := blk_cell g0 8
  have f0 : ∀ j, W.frozen? ⟨w.heap.size, j, none⟩ = false := blk_free g0
  have hB : Below W.heap.size W W := Below.refl _ _
  have G0 := Lib.hid g0; clear g0
  have F0 := Lib.hid f0; clear f0
  have Hw := Lib.hid hw; clear hw
  have ht : ∀ i, i < 3 → W.cell? ⟨w.heap.size, i * 3, none⟩ = some (.string (th3 ka kb kc i).k) ∧ W.cell? ⟨w.heap.size, i * 3 + 1, none⟩ = some (.string (th3 ka kb kc i).s) ∧ W.cell? ⟨w.heap.size, i * 3 + 2, none⟩ = some (.string (th3 ka kb kc i).n) := by
    intro i hi
    match i, hi with
    | 0, _ => exact ⟨c0_0, c0_1, c0_2⟩
    | 1, _ => exact ⟨c0_3, c0_4, c0_5⟩
    | 2, _ => exact ⟨c0_6, c0_7, c0_8⟩
  have HT := Lib.hid ht; have Hz := Lib.hid hz
  clear ht c0_0 c0_1 c0_2 c0_3 c0_4 c0_5 c0_6 c0_7 c0_8 F0 G0
  generalize th3 ka kb kc = th at HT
  go_loopw [3, 4] (fun i _ wr => ∃ k : Nat, i = .int .i64 k ∧ k ≤ 3 ∧ Hid (∀ j, j < k → (th j).short = true) ∧ Below W.heap.size W wr) (fun i _ _ => 3 - (intOf i).toNat)
  case atStart => exact ⟨0, rfl, by omega, fun j hj => by omega, hB⟩
  case round =>
    obtain ⟨k, rfl, hk, hsh, hB⟩ := hrel
    by_cases hlt : k < 3
    · obtain ⟨t0, t1, t2⟩ := HT.out k hlt
      have k0 := cb hB t0; have k1 := cb hB t1; have k2 := cb hB t2
      clear t0 t1 t2
      generalize hs : shortB (th k).k (th k).s (th k).n = sh
      have HS := Lib.hid hs; clear hs
      cases sh with
      | false =>
        go_wp2_with (first | (go_at_call 26; refine (short_calls _ _ _ _).mono ?_; rintro e w' ⟨rfl, hb⟩; rw [HS.out]; have hB := bl_next hB hb; clear hb) | (go_at_call 27; refine (alive1_calls _).mono ?_; rintro e w' ⟨rfl, hb⟩; have hB := bl_next hB hb; clear hb))
        go_ret
        exact ⟨rfl, bl_from Hw.out hB⟩
      | true =>
        go_wp2_with (first | (go_at_call 26; refine (short_calls _ _ _ _).mono ?_; rintro e w' ⟨rfl, hb⟩; rw [HS.out]; have hB := bl_next hB hb; clear hb))
        go_roundw
        case rel => exact ⟨k + 1, by go_num, by omega, fun j hj => by rcases Nat.lt_succ_iff_lt_or_eq.1 hj with h | rfl; exact hsh.out j h; exact HS.out, hB⟩
        case measure => simp [intOf]; omega
    · have hk3 : Hid (k = 3) := (by omega : k = 3)
      replace hsh : Hid (∀ j, j < 3 → (th j).short = true) := by rw [← hk3.out]; exact hsh
      go_wp2_with fail
      go_loopw [5, 6, 7, 8, 9] (fun i _ _ _ _ wr => ∃ k : Nat, i = .int .i64 k ∧ k ≤ 3 ∧ Below W.heap.size W wr) (fun i _ _ _ _ _ => 3 - (intOf i).toNat)
      case atStart => exact ⟨0, rfl, by omega, hB⟩
      case round =>
        obtain ⟨i, rfl, hi, hB⟩ := hrel
        by_cases hil : i < 3
        · have hdi : decide ((i : Int) < 3) = true := by simp; omega
          go_wp2_with fail
          go_loopw [6, 7, 8, 9] (fun j _ _ _ wr => ∃ k : Nat, j = .int .i64 k ∧ k ≤ 3 ∧ Below W.heap.size W wr) (fun j _ _ _ _ => 3 - (intOf j).toNat)
          case atStart => exact ⟨0, rfl, by omega, hB⟩
          case round =>
            obtain ⟨j, rfl, hj, hB⟩ := hrel
            by_cases hjl : j < 3
            · have hdj : decide ((j : Int) < 3) = true := by simp; omega
              obtain ⟨t0, t1, t2⟩ := HT.out i hil
              obtain ⟨t3, t4, t5⟩ := HT.out j hjl
              have k0 := cb hB t0; have k1 := cb hB t1; have k2 := cb hB t2; have k3 := cb hB t3; have k4 := cb hB t4; have k5 := cb hB t5
              have hzB : w.heap.size < wr.heap.size := by have := hB.size; omega
              have z1 := Key.short_sz (hsh.out i hil); have z2 := Key.short_sz (hsh.out j hjl)
              clear t0 t1 t2 t3 t4 t5
              go_upto_region 15 with fail
              have hBW := hB
              obtain ⟨wo, rfl⟩ : ∃ wo : World, wo = wr := ⟨_, rfl⟩
              first | with_reducible refine name_wp ?_ | with_reducible refine name_calls ?_
              intro V hWeq
              have g0 : V.heap[wo.heap.size]? = some (.cells #[.string (th i).k, .string (th i).s, .string (th i).n] 35) := by rw [hWeq]; repeat (first | exact blk_newAt _ _ (by simp) | refine blk_old ?_ _ | refine blk_dN ?_ _ | refine blk_drew ?_)
              have g1 : V.heap[wo.heap.size + 1]? = some (.cells #[.string (th j).k, .string (th j).s, .string (th j).n] 35) := by rw [hWeq]; repeat (first | exact blk_newAt _ _ (by simp) | refine blk_old ?_ _ | refine blk_dN ?_ _ | refine blk_drew ?_)
              have hw : Below wo.heap.size wo V := by rw [hWeq]; repeat (first | exact Below.refl _ _ | refine Below.alloc ?_ (by simp) _ | refine bl_dN ?_ _ | refine Below.drew ?_)
              clear hWeq
              have hz : wo.heap.size + 2 ≤ V.heap.size := by have := blk_lt g1; omega
              have c0_0 : V.cell? ⟨wo.heap.size, 0, none⟩ = some (.string (th i).k) := blk_cell g0 0
              have c0_1 : V.cell? ⟨wo.heap.size, 1, none⟩ = some (.string (th i).s) := blk_cell g0 1
              have c0_2 : V.cell? ⟨wo.heap.size, 2, none⟩ = some (.string (th i).n) := blk_cell g0 2
              have f0 : ∀ j, V.frozen? ⟨wo.heap.size, j, none⟩ = false := blk_free g0
              have c1_0 : V.cell? ⟨wo.heap.size + 1, 0, none⟩ = some (.string (th j).k) := blk_cell g1 0
              have c1_1 : V.cell? ⟨wo.heap.size + 1, 1, none⟩ = some (.string (th j).s) := blk_cell g1 1
              have c1_2 : V.cell? ⟨wo.heap.size + 1, 2, none⟩ = some (.string (th j).n) := blk_cell g1 2
              have f1 : ∀ j, V.frozen? ⟨wo.heap.size + 1, j, none⟩ = false := blk_free g1
              have hB : Below V.heap.size V V := Below.refl _ _
              have G0 := Lib.hid g0; clear g0
              have F0 := Lib.hid f0; clear f0
              have G1 := Lib.hid g1; clear g1
              have F1 := Lib.hid f1; clear f1
              have Hw := Lib.hid hw; clear hw
              go_cut [42] (fun s42 wc => s42 = .bool false ∧ Below V.heap.size V wc)
              case first =>
                go_wp2_with (go_at_call 36; refine (less_calls _ _ _ _ _ _ _ (by omega) (by omega)).mono ?_; rintro e w' ⟨rfl, hb⟩; have hB := bl_next (by (repeat (first | exact hB | refine Below.alloc ?_ (by have := hB.size; simp; omega) _ | refine bl_dN ?_ _ | refine Below.drew ?_))) hb; clear hb; have k0_0 := cb hB c0_0; have k0_1 := cb hB c0_1; have k0_2 := cb hB c0_2; have k1_0 := cb hB c1_0; have k1_1 := cb hB c1_1; have k1_2 := cb hB c1_2; have kz0 : wo.heap.size < _ := lt_of_cell k0_0; have kz1 : wo.heap.size + 1 < _ := lt_of_cell k1_0)
                · go_meet
                  refine ⟨vbool ?_, hB⟩
                  have h1 : Op.bytesLess (keyText (th i).k (th i).s (th i).n).toList (keyText (th j).k (th j).s (th j).n).toList = true := by assumption
                  have := keyOrder1 (th i) (th j)
                  simpa [Key.lt, Key.text, h1] using this
                · go_meet
                  exact ⟨rfl, hB⟩
              case rest =>
                obtain ⟨rfl, hB⟩ := hcut
                have k0_0 := cb hB c0_0; have k0_1 := cb hB c0_1; have k0_2 := cb hB c0_2; have k1_0 := cb hB c1_0; have k1_1 := cb hB c1_1; have k1_2 := cb hB c1_2
                go_upto_region 17 with fail
                go_cut [65] (fun s65 wc => s65 = .bool false ∧ Below V.heap.size V wc)
                case first =>
                  go_wp2_with (first | (go_at_call 36; refine (less_calls _ _ _ _ _ _ _ (by omega) (by omega)).mono ?_; rintro e w' ⟨rfl, hb⟩; have hB := bl_next (by (repeat (first | exact hB | refine Below.alloc ?_ (by have := hB.size; simp; omega) _ | refine bl_dN ?_ _ | refine Below.drew ?_))) hb; clear hb; have k0_0 := cb hB c0_0; have k0_1 := cb hB c0_1; have k0_2 := cb hB c0_2; have k1_0 := cb hB c1_0; have k1_1 := cb hB c1_1; have k1_2 := cb hB c1_2; have kz0 : wo.heap.size < _ := lt_of_cell k0_0; have kz1 : wo.heap.size + 1 < _ := lt_of_cell k1_0) | (go_at_call 32; refine (key_calls _ _ _ _ (by omega) (by omega) (by omega)).mono ?_; rintro e w' ⟨rfl, hb⟩; have hB := bl_next (by (repeat (first | exact hB | refine Below.alloc ?_ (by have := hB.size; simp; omega) _ | refine bl_dN ?_ _ | refine Below.drew ?_))) hb; clear hb; have k0_0 := cb hB c0_0; have k0_1 := cb hB c0_1; have k0_2 := cb hB c0_2; have k1_0 := cb hB c1_0; have k1_1 := cb hB c1_1; have k1_2 := cb hB c1_2; have kz0 : wo.heap.size < _ := lt_of_cell k0_0; have kz1 : wo.heap.size + 1 < _ := lt_of_cell k1_0))
                  all_goals go_meet
                  all_goals first | exact ⟨rfl, hB⟩ | exact ⟨vbool (lo_close _ _ ‹_› ‹_› ‹_› (Or.inl ‹_›)), hB⟩ | exact ⟨vbool (lo_close _ _ ‹_› ‹_› ‹_› (Or.inr (Or.inl ‹_›))), hB⟩ | exact ⟨vbool (lo_close _ _ ‹_› ‹_› ‹_› (Or.inr (Or.inr ‹_›))), hB⟩ | skip
                case rest =>
                  obtain ⟨rfl, hB⟩ := hcut
                  have k0_0 := cb hB c0_0; have k0_1 := cb hB c0_1; have k0_2 := cb hB c0_2; have k1_0 := cb hB c1_0; have k1_1 := cb hB c1_1; have k1_2 := cb hB c1_2
                  have hWV : Below W.heap.size W V := bl_next hBW Hw.out
                  go_wp2_with fail
                  go_loopw [9] (fun n wn => ∃ k : Nat, n = .int .i64 k ∧ k ≤ 3 ∧ Below V.heap.size V wn) (fun n _ => 3 - (intOf n).toNat)
                  case atStart => exact ⟨0, rfl, by omega, hB⟩
                  case round =>
                    obtain ⟨n, rfl, hn, hB⟩ := hrel
                    by_cases hnl : n < 3
                    · have hdn : decide ((n : Int) < 3) = true := by simp; omega
                      obtain ⟨t6, t7, t8⟩ := HT.out n hnl
                      have v0 := cb hWV t6; have v1 := cb hWV t7; have v2 := cb hWV t8
                      have z3 := Key.short_sz (hsh.out n hnl)
                      clear t6 t7 t8
                      have hni : (n : Int) < 3 := by omega
                      go_upto_region 22 with fail
                      generalize hx : Op.bytesLess (keyText (th i).k (th i).s (th i).n).toList (keyText (th j).k (th j).s (th j).n).toList = x
                      have HX := Lib.hid hx; clear hx
                      cases x with
                      | false =>
                        have hB := hB.drew
                        refine region_seq (fun w' => Below V.heap.size V w') [(0, true), (1, true), (2, false), (3, true), (4, true), (5, true), (6, true), (7, true), (8, false), (9, true), (10, true), (11, true), (12, true), (13, true), (14, true), (15, false), (16, true), (17, true)] (by kernel_rfl) (by kernel_rfl) (fun _ _ _ _ h => h) hB ?_
                        try generalize World.drew _ = wS at hB ⊢
                        refine seq_take (v := ?_) (a' := ?_) (some 70) rfl rfl (by rfl) ?_ ?_ ?_
                        rotate_left; rotate_left
                        · intro w' hS; have s0 := cb hS c0_0; have s1 := cb hS c0_1; have s2 := cb hS c0_2; have s3 := cb hS c1_0; have s4 := cb hS c1_1; have s5 := cb hS c1_2; have s6 := cb hS v0; have s7 := cb hS v1; have s8 := cb hS v2; go_simp; with_reducible rfl
                        · simp only [Act.put, List.setIfInBounds_toArray, List.set_cons_zero, List.set_cons_succ]; rfl
                        refine seq_take (v := ?_) (a' := ?_) (some 71) rfl rfl (by rfl) ?_ ?_ ?_
                        rotate_left; rotate_left
                        · intro w' hS; have s0 := cb hS c0_0; have s1 := cb hS c0_1; have s2 := cb hS c0_2; have s3 := cb hS c1_0; have s4 := cb hS c1_1; have s5 := cb hS c1_2; have s6 := cb hS v0; have s7 := cb hS v1; have s8 := cb hS v2; go_simp; with_reducible rfl
                        · simp only [Act.put, List.setIfInBounds_toArray, List.set_cons_zero, List.set_cons_succ]; rfl
                        refine seq_call (args := ?_) Try.func36 (by kernel_rfl) rfl (some 72) rfl rfl (by rfl) rfl ?_ ?_
                        rotate_left
                        · simp only [List.map_toArray, List.map_cons, List.map_nil]; go_simp; rfl
                        with_reducible refine (less_calls _ _ _ _ _ _ _ (by omega) (by omega)).mono ?_
                        rintro e w' ⟨rfl, hb⟩
                        rw [HX.out]
                        refine ⟨_, rfl, bl_next hB hb, ?_⟩
                        have hB := bl_next hB hb; clear hb
                        simp only [Act.put, List.setIfInBounds_toArray, List.set_cons_zero, List.set_cons_succ]
                        refine seq_take (v := ?_) (a' := ?_) (some 73) rfl rfl (by rfl) ?_ ?_ ?_
                        rotate_left; rotate_left
                        · intro w' hS; go_simp; with_reducible rfl
                        · simp only [Act.put, List.setIfInBounds_toArray, List.set_cons_zero, List.set_cons_succ]; rfl
                        refine seq_skip (a' := ?_) (some 74) rfl rfl (by rfl) ?_ ?_
                        rotate_left
                        · simp only [Act.put, List.setIfInBounds_toArray, List.set_cons_zero, List.set_cons_succ]; rfl
                        refine seq_skip (a' := ?_) (some 75) rfl rfl (by rfl) ?_ ?_
                        rotate_left
                        · simp only [Act.put, List.setIfInBounds_toArray, List.set_cons_zero, List.set_cons_succ]; rfl
                        refine seq_skip (a' := ?_) (some 76) rfl rfl (by rfl) ?_ ?_
                        rotate_left
                        · simp only [Act.put, List.setIfInBounds_toArray, List.set_cons_zero, List.set_cons_succ]; rfl
                        refine seq_skip (a' := ?_) (some 77) rfl rfl (by rfl) ?_ ?_
                        rotate_left
                        · simp only [Act.put, List.setIfInBounds_toArray, List.set_cons_zero, List.set_cons_succ]; rfl
                        refine seq_skip1 (a' := ?_) (some 78) rfl rfl (by rfl) ?_ hB ?_
                        rotate_left
                        · simp only [Act.put, List.setIfInBounds_toArray, List.set_cons_zero, List.set_cons_succ]; rfl
                        refine seq_take (v := ?_) (a' := ?_) (some 79) rfl rfl (by rfl) ?_ ?_ ?_
                        rotate_left; rotate_left
                        · intro w' hS; go_simp; with_reducible rfl
                        · simp only [Act.put, List.setIfInBounds_toArray, List.set_cons_zero, List.set_cons_succ]; rfl
                        refine seq_take (v := ?_) (a' := ?_) (some 80) rfl rfl (by rfl) ?_ ?_ ?_
                        rotate_left; rotate_left
                        · intro w' hS; go_simp; with_reducible rfl
                        · simp only [Act.put, List.setIfInBounds_toArray, List.set_cons_zero, List.set_cons_succ]; rfl
                        refine seq_skip (a' := ?_) (some 81) rfl rfl (by rfl) ?_ ?_
                        rotate_left
                        · simp only [Act.put, List.setIfInBounds_toArray, List.set_cons_zero, List.set_cons_succ]; rfl
                        refine seq_skip (a' := ?_) (some 82) rfl rfl (by rfl) ?_ ?_
                        rotate_left
                        · simp only [Act.put, List.setIfInBounds_toArray, List.set_cons_zero, List.set_cons_succ]; rfl
                        refine seq_skip (a' := ?_) (some 83) rfl rfl (by rfl) ?_ ?_
                        rotate_left
                        · simp only [Act.put, List.setIfInBounds_toArray, List.set_cons_zero, List.set_cons_succ]; rfl
                        refine seq_skip (a' := ?_) (some 84) rfl rfl (by rfl) ?_ ?_
                        rotate_left
                        · simp only [Act.put, List.setIfInBounds_toArray, List.set_cons_zero, List.set_cons_succ]; rfl
                        refine seq_skip1 (a' := ?_) (some 85) rfl rfl (by rfl) ?_ hB ?_
                        rotate_left
                        · simp only [Act.put, List.setIfInBounds_toArray, List.set_cons_zero, List.set_cons_succ]; rfl
                        refine seq_skip (a' := ?_) (some 86) rfl rfl (by rfl) ?_ ?_
                        rotate_left
                        · simp only [Act.put, List.setIfInBounds_toArray, List.set_cons_zero, List.set_cons_succ]; rfl
                        refine seq_take (v := ?_) (a' := ?_) (some 87) rfl rfl (by rfl) ?_ ?_ ?_
                        rotate_left; rotate_left
                        · intro w' hS; go_simp; with_reducible rfl
                        · simp only [Act.put, List.setIfInBounds_toArray, List.set_cons_zero, List.set_cons_succ]; rfl
                        refine seq_done ?_
                        go_wp2_with fail
                        go_roundw
                        case rel => exact ⟨n + 1, by go_num, by omega, hB⟩
                        case measure => simp [intOf]; omega
                      | true =>
                        generalize hy : Op.bytesLess (keyText (th j).k (th j).s (th j).n).toList (keyText (th n).k (th n).s (th n).n).toList = y
                        have HY := Lib.hid hy; clear hy
                        cases y with
                        | false =>
                          have hB := hB.drew
                          refine region_seq (fun w' => Below V.heap.size V w') [(0, true), (1, true), (2, false), (3, true), (4, true), (5, true), (6, true), (7, true), (8, false), (9, true), (10, true), (11, true), (12, true), (13, true), (14, true), (15, false), (16, true), (17, true)] (by kernel_rfl) (by kernel_rfl) (fun _ _ _ _ h => h) hB ?_
                          try generalize World.drew _ = wS at hB ⊢
                          refine seq_take (v := ?_) (a' := ?_) (some 70) rfl rfl (by rfl) ?_ ?_ ?_
                          rotate_left; rotate_left
                          · intro w' hS; have s0 := cb hS c0_0; have s1 := cb hS c0_1; have s2 := cb hS c0_2; have s3 := cb hS c1_0; have s4 := cb hS c1_1; have s5 := cb hS c1_2; have s6 := cb hS v0; have s7 := cb hS v1; have s8 := cb hS v2; go_simp; with_reducible rfl
                          · simp only [Act.put, List.setIfInBounds_toArray, List.set_cons_zero, List.set_cons_succ]; rfl
                          refine seq_take (v := ?_) (a' := ?_) (some 71) rfl rfl (by rfl) ?_ ?_ ?_
                          rotate_left; rotate_left
                          · intro w' hS; have s0 := cb hS c0_0; have s1 := cb hS c0_1; have s2 := cb hS c0_2; have s3 := cb hS c1_0; have s4 := cb hS c1_1; have s5 := cb hS c1_2; have s6 := cb hS v0; have s7 := cb hS v1; have s8 := cb hS v2; go_simp; with_reducible rfl
                          · simp only [Act.put, List.setIfInBounds_toArray, List.set_cons_zero, List.set_cons_succ]; rfl
                          refine seq_call (args := ?_) Try.func36 (by kernel_rfl) rfl (some 72) rfl rfl (by rfl) rfl ?_ ?_
                          rotate_left
                          · simp only [List.map_toArray, List.map_cons, List.map_nil]; go_simp; rfl
                          with_reducible refine (less_calls _ _ _ _ _ _ _ (by omega) (by omega)).mono ?_
                          rintro e w' ⟨rfl, hb⟩
                          (first | rw [HX.out] | rw [HY.out])
                          refine ⟨_, rfl, bl_next hB hb, ?_⟩
                          have hB := bl_next hB hb; clear hb
                          simp only [Act.put, List.setIfInBounds_toArray, List.set_cons_zero, List.set_cons_succ]
                          refine seq_take (v := ?_) (a' := ?_) (some 73) rfl rfl (by rfl) ?_ ?_ ?_
                          rotate_left; rotate_left
                          · intro w' hS; go_simp; with_reducible rfl
                          · simp only [Act.put, List.setIfInBounds_toArray, List.set_cons_zero, List.set_cons_succ]; rfl
                          refine seq_take (v := ?_) (a' := ?_) (some 74) rfl rfl (by rfl) ?_ ?_ ?_
                          rotate_left; rotate_left
                          · intro w' hS; have s0 := cb hS c0_0; have s1 := cb hS c0_1; have s2 := cb hS c0_2; have s3 := cb hS c1_0; have s4 := cb hS c1_1; have s5 := cb hS c1_2; have s6 := cb hS v0; have s7 := cb hS v1; have s8 := cb hS v2; go_simp; with_reducible rfl
                          · simp only [Act.put, List.setIfInBounds_toArray, List.set_cons_zero, List.set_cons_succ]; rfl
                          refine seq_take (v := ?_) (a' := ?_) (some 75) rfl rfl (by rfl) ?_ ?_ ?_
                          rotate_left; rotate_left
                          · intro w' hS; go_simp; with_reducible rfl
                          · simp only [Act.put, List.setIfInBounds_toArray, List.set_cons_zero, List.set_cons_succ]; rfl
                          refine seq_take (v := ?_) (a' := ?_) (some 76) rfl rfl (by rfl) ?_ ?_ ?_
                          rotate_left; rotate_left
                          · intro w' hS; go_simp; with_reducible rfl
                          · simp only [Act.put, List.setIfInBounds_toArray, List.set_cons_zero, List.set_cons_succ]; rfl
                          refine seq_take (v := ?_) (a' := ?_) (some 77) rfl rfl (by rfl) ?_ ?_ ?_
                          rotate_left; rotate_left
                          · intro w' hS; have s0 := cb hS c0_0; have s1 := cb hS c0_1; have s2 := cb hS c0_2; have s3 := cb hS c1_0; have s4 := cb hS c1_1; have s5 := cb hS c1_2; have s6 := cb hS v0; have s7 := cb hS v1; have s8 := cb hS v2; go_simp; with_reducible rfl
                          · simp only [Act.put, List.setIfInBounds_toArray, List.set_cons_zero, List.set_cons_succ]; rfl
                          refine seq_call (args := ?_) Try.func36 (by kernel_rfl) rfl (some 78) rfl rfl (by rfl) rfl ?_ ?_
                          rotate_left
                          · simp only [List.map_toArray, List.map_cons, List.map_nil]; go_simp; rfl
                          with_reducible refine (less_calls _ _ _ _ _ _ _ (by omega) (by omega)).mono ?_
                          rintro e w' ⟨rfl, hb⟩
                          (first | rw [HX.out] | rw [HY.out])
                          refine ⟨_, rfl, bl_next hB hb, ?_⟩
                          have hB := bl_next hB hb; clear hb
                          simp only [Act.put, List.setIfInBounds_toArray, List.set_cons_zero, List.set_cons_succ]
                          refine seq_take (v := ?_) (a' := ?_) (some 79) rfl rfl (by rfl) ?_ ?_ ?_
                          rotate_left; rotate_left
                          · intro w' hS; go_simp; with_reducible rfl
                          · simp only [Act.put, List.setIfInBounds_toArray, List.set_cons_zero, List.set_cons_succ]; rfl
                          refine seq_take (v := ?_) (a' := ?_) (some 80) rfl rfl (by rfl) ?_ ?_ ?_
                          rotate_left; rotate_left
                          · intro w' hS; go_simp; with_reducible rfl
                          · simp only [Act.put, List.setIfInBounds_toArray, List.set_cons_zero, List.set_cons_succ]; rfl
                          refine seq_skip (a' := ?_) (some 81) rfl rfl (by rfl) ?_ ?_
                          rotate_left
                          · simp only [Act.put, List.setIfInBounds_toArray, List.set_cons_zero, List.set_cons_succ]; rfl
                          refine seq_skip (a' := ?_) (some 82) rfl rfl (by rfl) ?_ ?_
                          rotate_left
                          · simp only [Act.put, List.setIfInBounds_toArray, List.set_cons_zero, List.set_cons_succ]; rfl
                          refine seq_skip (a' := ?_) (some 83) rfl rfl (by rfl) ?_ ?_
                          rotate_left
                          · simp only [Act.put, List.setIfInBounds_toArray, List.set_cons_zero, List.set_cons_succ]; rfl
                          refine seq_skip (a' := ?_) (some 84) rfl rfl (by rfl) ?_ ?_
                          rotate_left
                          · simp only [Act.put, List.setIfInBounds_toArray, List.set_cons_zero, List.set_cons_succ]; rfl
                          refine seq_skip1 (a' := ?_) (some 85) rfl rfl (by rfl) ?_ hB ?_
                          rotate_left
                          · simp only [Act.put, List.setIfInBounds_toArray, List.set_cons_zero, List.set_cons_succ]; rfl
                          refine seq_skip (a' := ?_) (some 86) rfl rfl (by rfl) ?_ ?_
                          rotate_left
                          · simp only [Act.put, List.setIfInBounds_toArray, List.set_cons_zero, List.set_cons_succ]; rfl
                          refine seq_take (v := ?_) (a' := ?_) (some 87) rfl rfl (by rfl) ?_ ?_ ?_
                          rotate_left; rotate_left
                          · intro w' hS; go_simp; with_reducible rfl
                          · simp only [Act.put, List.setIfInBounds_toArray, List.set_cons_zero, List.set_cons_succ]; rfl
                          refine seq_done ?_
                          go_wp2_with fail
                          go_roundw
                          case rel => exact ⟨n + 1, by go_num, by omega, hB⟩
                          case measure => simp [intOf]; omega
                        | true =>
                          have HZ : Hid (Op.bytesLess (keyText (th i).k (th i).s (th i).n).toList (keyText (th n).k (th n).s (th n).n).toList = true) := keyOrder3 (th i) (th j) (th n) HX.out HY.out
                          have hB := hB.drew
                          refine region_seq (fun w' => Below V.heap.size V w') [(0, true), (1, true), (2, false), (3, true), (4, true), (5, true), (6, true), (7, true), (8, false), (9, true), (10, true), (11, true), (12, true), (13, true), (14, true), (15, false), (16, true), (17, true)] (by kernel_rfl) (by kernel_rfl) (fun _ _ _ _ h => h) hB ?_
                          try generalize World.drew _ = wS at hB ⊢
                          refine seq_take (v := ?_) (a' := ?_) (some 70) rfl rfl (by rfl) ?_ ?_ ?_
                          rotate_left; rotate_left
                          · intro w' hS; have s0 := cb hS c0_0; have s1 := cb hS c0_1; have s2 := cb hS c0_2; have s3 := cb hS c1_0; have s4 := cb hS c1_1; have s5 := cb hS c1_2; have s6 := cb hS v0; have s7 := cb hS v1; have s8 := cb hS v2; go_simp; with_reducible rfl
                          · simp only [Act.put, List.setIfInBounds_toArray, List.set_cons_zero, List.set_cons_succ]; rfl
                          refine seq_take (v := ?_) (a' := ?_) (some 71) rfl rfl (by rfl) ?_ ?_ ?_
                          rotate_left; rotate_left
                          · intro w' hS; have s0 := cb hS c0_0; have s1 := cb hS c0_1; have s2 := cb hS c0_2; have s3 := cb hS c1_0; have s4 := cb hS c1_1; have s5 := cb hS c1_2; have s6 := cb hS v0; have s7 := cb hS v1; have s8 := cb hS v2; go_simp; with_reducible rfl
                          · simp only [Act.put, List.setIfInBounds_toArray, List.set_cons_zero, List.set_cons_succ]; rfl
                          refine seq_call (args := ?_) Try.func36 (by kernel_rfl) rfl (some 72) rfl rfl (by rfl) rfl ?_ ?_
                          rotate_left
                          · simp only [List.map_toArray, List.map_cons, List.map_nil]; go_simp; rfl
                          with_reducible refine (less_calls _ _ _ _ _ _ _ (by omega) (by omega)).mono ?_
                          rintro e w' ⟨rfl, hb⟩
                          (first | rw [HX.out] | rw [HY.out] | rw [HZ.out])
                          refine ⟨_, rfl, bl_next hB hb, ?_⟩
                          have hB := bl_next hB hb; clear hb
                          simp only [Act.put, List.setIfInBounds_toArray, List.set_cons_zero, List.set_cons_succ]
                          refine seq_take (v := ?_) (a' := ?_) (some 73) rfl rfl (by rfl) ?_ ?_ ?_
                          rotate_left; rotate_left
                          · intro w' hS; go_simp; with_reducible rfl
                          · simp only [Act.put, List.setIfInBounds_toArray, List.set_cons_zero, List.set_cons_succ]; rfl
                          refine seq_take (v := ?_) (a' := ?_) (some 74) rfl rfl (by rfl) ?_ ?_ ?_
                          rotate_left; rotate_left
                          · intro w' hS; have s0 := cb hS c0_0; have s1 := cb hS c0_1; have s2 := cb hS c0_2; have s3 := cb hS c1_0; have s4 := cb hS c1_1; have s5 := cb hS c1_2; have s6 := cb hS v0; have s7 := cb hS v1; have s8 := cb hS v2; go_simp; with_reducible rfl
                          · simp only [Act.put, List.setIfInBounds_toArray, List.set_cons_zero, List.set_cons_succ]; rfl
                          refine seq_take (v := ?_) (a' := ?_) (some 75) rfl rfl (by rfl) ?_ ?_ ?_
                          rotate_left; rotate_left
                          · intro w' hS; go_simp; with_reducible rfl
                          · simp only [Act.put, List.setIfInBounds_toArray, List.set_cons_zero, List.set_cons_succ]; rfl
                          refine seq_take (v := ?_) (a' := ?_) (some 76) rfl rfl (by rfl) ?_ ?_ ?_
                          rotate_left; rotate_left
                          · intro w' hS; go_simp; with_reducible rfl
                          · simp only [Act.put, List.setIfInBounds_toArray, List.set_cons_zero, List.set_cons_succ]; rfl
                          refine seq_take (v := ?_) (a' := ?_) (some 77) rfl rfl (by rfl) ?_ ?_ ?_
                          rotate_left; rotate_left
                          · intro w' hS; have s0 := cb hS c0_0; have s1 := cb hS c0_1; have s2 := cb hS c0_2; have s3 := cb hS c1_0; have s4 := cb hS c1_1; have s5 := cb hS c1_2; have s6 := cb hS v0; have s7 := cb hS v1; have s8 := cb hS v2; go_simp; with_reducible rfl
                          · simp only [Act.put, List.setIfInBounds_toArray, List.set_cons_zero, List.set_cons_succ]; rfl
                          refine seq_call (args := ?_) Try.func36 (by kernel_rfl) rfl (some 78) rfl rfl (by rfl) rfl ?_ ?_
                          rotate_left
                          · simp only [List.map_toArray, List.map_cons, List.map_nil]; go_simp; rfl
                          with_reducible refine (less_calls _ _ _ _ _ _ _ (by omega) (by omega)).mono ?_
                          rintro e w' ⟨rfl, hb⟩
                          (first | rw [HX.out] | rw [HY.out] | rw [HZ.out])
                          refine ⟨_, rfl, bl_next hB hb, ?_⟩
                          have hB := bl_next hB hb; clear hb
                          simp only [Act.put, List.setIfInBounds_toArray, List.set_cons_zero, List.set_cons_succ]
                          refine seq_take (v := ?_) (a' := ?_) (some 79) rfl rfl (by rfl) ?_ ?_ ?_
                          rotate_left; rotate_left
                          · intro w' hS; go_simp; with_reducible rfl
                          · simp only [Act.put, List.setIfInBounds_toArray, List.set_cons_zero, List.set_cons_succ]; rfl
                          refine seq_take (v := ?_) (a' := ?_) (some 80) rfl rfl (by rfl) ?_ ?_ ?_
                          rotate_left; rotate_left
                          · intro w' hS; go_simp; with_reducible rfl
                          · simp only [Act.put, List.setIfInBounds_toArray, List.set_cons_zero, List.set_cons_succ]; rfl
                          refine seq_take (v := ?_) (a' := ?_) (some 81) rfl rfl (by rfl) ?_ ?_ ?_
                          rotate_left; rotate_left
                          · intro w' hS; have s0 := cb hS c0_0; have s1 := cb hS c0_1; have s2 := cb hS c0_2; have s3 := cb hS c1_0; have s4 := cb hS c1_1; have s5 := cb hS c1_2; have s6 := cb hS v0; have s7 := cb hS v1; have s8 := cb hS v2; go_simp; with_reducible rfl
                          · simp only [Act.put, List.setIfInBounds_toArray, List.set_cons_zero, List.set_cons_succ]; rfl
                          refine seq_take (v := ?_) (a' := ?_) (some 82) rfl rfl (by rfl) ?_ ?_ ?_
                          rotate_left; rotate_left
                          · intro w' hS; go_simp; with_reducible rfl
                          · simp only [Act.put, List.setIfInBounds_toArray, List.set_cons_zero, List.set_cons_succ]; rfl
                          refine seq_take (v := ?_) (a' := ?_) (some 83) rfl rfl (by rfl) ?_ ?_ ?_
                          rotate_left; rotate_left
                          · intro w' hS; go_simp; with_reducible rfl
                          · simp only [Act.put, List.setIfInBounds_toArray, List.set_cons_zero, List.set_cons_succ]; rfl
                          refine seq_take (v := ?_) (a' := ?_) (some 84) rfl rfl (by rfl) ?_ ?_ ?_
                          rotate_left; rotate_left
                          · intro w' hS; have s0 := cb hS c0_0; have s1 := cb hS c0_1; have s2 := cb hS c0_2; have s3 := cb hS c1_0; have s4 := cb hS c1_1; have s5 := cb hS c1_2; have s6 := cb hS v0; have s7 := cb hS v1; have s8 := cb hS v2; go_simp; with_reducible rfl
                          · simp only [Act.put, List.setIfInBounds_toArray, List.set_cons_zero, List.set_cons_succ]; rfl
                          refine seq_call (args := ?_) Try.func36 (by kernel_rfl) rfl (some 85) rfl rfl (by rfl) rfl ?_ ?_
                          rotate_left
                          · simp only [List.map_toArray, List.map_cons, List.map_nil]; go_simp; rfl
                          with_reducible refine (less_calls _ _ _ _ _ _ _ (by omega) (by omega)).mono ?_
                          rintro e w' ⟨rfl, hb⟩
                          (first | rw [HX.out] | rw [HY.out] | rw [HZ.out])
                          refine ⟨_, rfl, bl_next hB hb, ?_⟩
                          have hB := bl_next hB hb; clear hb
                          simp only [Act.put, List.setIfInBounds_toArray, List.set_cons_zero, List.set_cons_succ]
                          refine seq_take (v := ?_) (a' := ?_) (some 86) rfl rfl (by rfl) ?_ ?_ ?_
                          rotate_left; rotate_left
                          · intro w' hS; go_simp; with_reducible rfl
                          · simp only [Act.put, List.setIfInBounds_toArray, List.set_cons_zero, List.set_cons_succ]; rfl
                          refine seq_take (v := ?_) (a' := ?_) (some 87) rfl rfl (by rfl) ?_ ?_ ?_
                          rotate_left; rotate_left
                          · intro w' hS; go_simp; with_reducible rfl
                          · simp only [Act.put, List.setIfInBounds_toArray, List.set_cons_zero, List.set_cons_succ]; rfl
                          refine seq_done ?_
                          go_wp2_with fail
                          go_roundw
                          case rel => exact ⟨n + 1, by go_num, by omega, hB⟩
                          case measure => simp [intOf]; omega
                    · go_wp2_with fail
                      go_roundw
                      case rel => exact ⟨j + 1, by go_num, by omega, bl_next hWV hB⟩
                      case measure => simp [intOf]; omega
            · obtain rfl : j = 3 := by omega
              go_wp2_with fail
              go_roundw
              case rel => exact ⟨i + 1, by go_num, by omega, hB⟩
              case measure => simp [intOf]; omega
        · go_wp2_with (go_at_call 27; refine (alive1_calls _).mono ?_; rintro e w' ⟨rfl, hb⟩; have hB := bl_next hB hb; clear hb)
          go_ret
          exact ⟨rfl, bl_from Hw.out hB⟩
end Go.Proofs.Ytdcceaafiammfaa

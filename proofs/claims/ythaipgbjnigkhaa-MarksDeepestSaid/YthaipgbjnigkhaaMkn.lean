import Derived.Test.YthaipgbjnigkhaaMkm
import Derived.Test.YthaipgbjnigkhaaMk1
namespace Go.Proofs.Ythaipgbjnigkhaa
open Go.RowKit Go.Shelf Go.Maps
set_option linter.unusedVariables false
set_option linter.unusedSimpArgs false
set_option linter.unusedSectionVars false
/-! ### Acts on marks -/
structure ActM where
  kind : Int
  l : List ByteArray
  s : ByteArray
def kActM : Kd ActM := kIso (kPair (kInt .u8) (kPair (kSlice kStr) kStr)) fun a => (a.kind, a.l, a.s)
theorem opStrs : Opens Try.prog 35 (kSlice kStr) := opens_slice Try.underlying35 (by kernel_rfl) (by decide) opStr
theorem opActM : Opens Try.prog 74 kActM := by
  refine opens_iso (fun x => ⟨x.1, x.2.1, x.2.2⟩) (fun _ => rfl) ?_
  refine opens_struct Try.underlying74 (by kernel_rfl) ?_
  exact (by refine opensF_cons ?_ ?_ ?_; rfl; exact opU8; refine opensF_cons ?_ ?_ ?_; rfl; exact opStrs; refine opensF_one ?_ ?_; rfl; exact opStr)
theorem opActsM : Opens Try.prog 69 (kSlice kActM) := opens_slice Try.underlying69 (by kernel_rfl) (by decide) opActM
theorem strS_row {w : World} {ok : Nat → Prop} {A : Option Addr} {c : Nat} {xs : List ByteArray} (hc : xs.length ≤ c) (h : Row kStr w ok A xs) : StrS w (.slice A xs.length c) xs := by
  refine ⟨A, c, rfl, hc, ?_⟩
  rcases h with h | ⟨b, off, hA, _, _, hr⟩
  · exact .inl h
  · refine .inr ⟨b, off, hA, fun j hj => ?_⟩
    obtain ⟨cs, hcs, hk⟩ := hr j hj
    obtain rfl : cs = [.string (xs[j]'hj)] := hk
    have := hcs 0 _ rfl
    rw [show kStr.sz = 1 from rfl, Nat.mul_one, Nat.add_zero] at this
    exact this
theorem strS_kd {w : World} {ok : Nat → Prop} {xs : List ByteArray} {cs : List Value} (h : (kSlice kStr).K w ok xs cs) : ∃ v, cs = [v] ∧ StrS w v xs := by
  obtain ⟨A, c, rfl, hc, hr⟩ := h
  exact ⟨_, rfl, strS_row hc hr⟩
theorem kActM_cs {w : World} {ok : Nat → Prop} {a : ActM} {cs : List Value} (h : kActM.K w ok a cs) : ∃ v, cs = [.int .u8 a.kind, v, .string a.s] ∧ StrS w v a.l ∧ 0 ≤ a.kind ∧ a.kind ≤ 255 := by
  obtain ⟨c0, c1, rfl, h0, c2, c3, rfl, h2, h3⟩ := h
  obtain ⟨v, rfl, hv⟩ := strS_kd h2
  rw [show c0 = _ from h0.1, show c3 = _ from h3]
  have q0 := h0.2
  simp [Lit.wf, IntKind.min, IntKind.max, IntKind.signed, IntKind.bits] at q0
  exact ⟨v, rfl, hv, q0.1, q0.2⟩
structure ActsM (w : World) (A : Option Addr) (xs : List ActM) : Prop where
  at' : ∀ i (h : i < xs.length), ∃ b off v, A = some ⟨b, off, none⟩ ∧ b < w.heap.size ∧ w.cell? ⟨b, off + i * 3, none⟩ = some (.int .u8 (xs[i]'h).kind) ∧ w.cell? ⟨b, off + i * 3 + 1, none⟩ = some v ∧ w.cell? ⟨b, off + i * 3 + 2, none⟩ = some (.string (xs[i]'h).s)
    ∧ StrS w v (xs[i]'h).l ∧ 0 ≤ (xs[i]'h).kind ∧ (xs[i]'h).kind ≤ 255
theorem actsM_of {w : World} {ok : Nat → Prop} {A : Option Addr} {xs : List ActM} (h : Row kActM w ok A xs) : ActsM w A xs := ⟨fun i hi => by
  rcases h with rfl | ⟨b, off, hA, _, hb, hr⟩
  · cases hi
  · obtain ⟨cs, hc, hk⟩ := hr i hi
    obtain ⟨v, rfl, hv, q⟩ := kActM_cs hk
    have hz : kActM.sz = 3 := rfl
    rw [hz] at hc
    exact ⟨b, off, v, hA, hb, hc 0 _ rfl, hc 1 _ rfl, hc 2 _ rfl, hv, q⟩⟩
theorem ActsM.below {w w1 : World} {A : Option Addr} {xs : List ActM} (h : ActsM w A xs) (hb : Below w.heap.size w w1) : ActsM w1 A xs := ⟨fun i hi => by
  obtain ⟨b, off, v, hA, hl, h0, h1, h2, hv, q⟩ := h.at' i hi
  exact ⟨b, off, v, hA, Nat.lt_of_lt_of_le hl hb.size, cb hb h0, cb hb h1, cb hb h2, hv.below hb, q⟩⟩
def shortL (l : List ByteArray) : Bool := l.all fun x => decide (x.size ≤ 100)
def fitM (a : ActM) : Bool := decide (a.l.length ≤ 60) && decide (a.s.size ≤ 100) && shortL a.l
def fitsM (l : List ActM) : Bool := decide (l.length ≤ 60) && l.all fitM
theorem fitsM_spec {l : List ActM} (h : fitsM l = true) : l.length ≤ 60 ∧ ∀ i (hi : i < l.length), (l[i]'hi).l.length ≤ 60 ∧ (l[i]'hi).s.size ≤ 100 ∧ ∀ x ∈ (l[i]'hi).l, x.size ≤ 100 := by
  unfold fitsM at h
  simp only [Bool.and_eq_true, decide_eq_true_eq, List.all_eq_true] at h
  refine ⟨h.1, fun i hi => ?_⟩
  have := h.2 _ (List.getElem_mem hi)
  unfold fitM shortL at this
  simp only [Bool.and_eq_true, decide_eq_true_eq, List.all_eq_true] at this
  exact ⟨this.1.1, this.1.2, this.2⟩
theorem allF {α : Type} {l : List α} {p : α → Bool} {i : Nat} (hi : i < l.length) (h : p (l[i]'hi) = false) : l.all p = false := by
  rw [List.all_eq_false]; exact ⟨_, List.getElem_mem hi, by simp [h]⟩
theorem allT {α : Type} {l : List α} {p : α → Bool} (h : ∀ i (hi : i < l.length), p (l[i]'hi) = true) : l.all p = true := by
  rw [List.all_eq_true]; intro x hx; obtain ⟨j, hj, rfl⟩ := List.getElem_of_mem hx; exact h j hj
set_option maxRecDepth 100000 in
set_option maxHeartbeats 4000000 in
theorem fits12_calls (w : World) (A : Option Addr) (cap : Nat) (l : List ActM) (h : ActsM w A l) :
    Calls Try.prog 48 #[.slice A l.length cap] w fun e w' => e = .returned (.bool (fitsM l)) ∧ Below w.heap.size w w' := by
  have hB := Below.refl w.heap.size w
  by_cases hl : 60 < l.length
  · have hlI : (60 : Int) < l.length := by omega
    go_enter Try.func48, Try.ntmps48
    go_wp2
    go_ret
    refine ⟨ret_bool ?_, hB⟩
    unfold fitsM
    rw [show decide (l.length ≤ 60) = false by simp; omega]; rfl
  · have hlI : (l.length : Int) ≤ 60 := by omega
    go_enter Try.func48, Try.ntmps48
    go_wp2
    go_loopw [3] (fun i wr => ∃ k : Nat, i = .int .i64 k ∧ k ≤ l.length ∧ Hid (∀ j (hj : j < l.length), j < k → fitM (l[j]'hj) = true) ∧ Below w.heap.size w wr) (fun i _ => l.length - (intOf i).toNat)
    case atStart => exact ⟨0, rfl, Nat.zero_le _, Lib.hid fun j hj h => absurd h (Nat.not_lt_zero _), hB⟩
    case round =>
      clear hB
      obtain ⟨k, rfl, hk, HALL, hB⟩ := hrel
      by_cases hkl : k < l.length
      · have hkI : (k : Int) < l.length := by omega
        obtain ⟨b, off, v, rfl, hb, c0, c1, c2, hv, q⟩ := (h.below hB).at' k hkl
        have FIN := Lib.hid (fun hf => (show fitsM l = false by unfold fitsM; rw [allF hkl (p := fitM) hf, Bool.and_false]))
        have STEP := Lib.hid (fun (hf : fitM (l[k]'hkl) = true) => (show ∀ j (hj : j < l.length), j < k + 1 → fitM (l[j]'hj) = true from fun j hj hjk => by
          rcases Nat.lt_or_ge j k with q | q
          · exact HALL.out j hj q
          · obtain rfl : j = k := by omega
            exact hf))
        clear q c0
        generalize l[k]'hkl = z at c1 c2 hv FIN STEP
        have HV := Lib.hid hv
        obtain ⟨av, cv, rfl⟩ := hv.form
        clear hv
        by_cases h1 : 60 < z.l.length
        · have h1I : (60 : Int) < z.l.length := by omega
          go_wp2
          go_ret
          exact ⟨ret_bool (FIN.out (by unfold fitM; rw [decide_eq_false (by omega)]; simp)).symm, hB⟩
        · have h1I : (z.l.length : Int) ≤ 60 := by omega
          by_cases h2 : 100 < z.s.size
          · have h2I : (100 : Int) < z.s.size := by omega
            go_wp2
            go_ret
            exact ⟨ret_bool (FIN.out (by unfold fitM; rw [decide_eq_false (p := z.s.size ≤ 100) (by omega)]; simp)).symm, hB⟩
          · have h2I : (z.s.size : Int) ≤ 100 := by omega
            have C1 := Lib.hid c1; have C2 := Lib.hid c2
            have HBk := Lib.hid hB
            obtain ⟨V, rfl⟩ : ∃ V : World, V = wr := ⟨_, rfl⟩
            clear hB
            have hB := Below.refl V.heap.size V
            go_wp2_with fail
            clear c1 c2
            go_loopw [4] (fun i wr => ∃ m : Nat, i = .int .i64 m ∧ m ≤ z.l.length ∧ Hid (∀ j (hj : j < z.l.length), j < m → decide ((z.l[j]'hj).size ≤ 100) = true) ∧ Below V.heap.size V wr) (fun i _ => z.l.length - (intOf i).toNat)
            case atStart => exact ⟨0, rfl, Nat.zero_le _, Lib.hid fun j hj h => absurd h (Nat.not_lt_zero _), hB⟩
            case round =>
              clear hB
              obtain ⟨m, rfl, hm, HM, hB⟩ := hrel
              have c1 := cb hB C1.out
              by_cases hml : m < z.l.length
              · have hmI : (m : Int) < z.l.length := by omega
                obtain ⟨b1, o1, d1, he, q⟩ := HV.out.at' hml
                cases he
                have q := cb hB q
                have FM := Lib.hid (fun (hf : decide ((z.l[m]'hml).size ≤ 100) = false) => (show fitM z = false by unfold fitM shortL; rw [allF hml (p := fun x : ByteArray => decide (x.size ≤ 100)) hf, Bool.and_false]))
                have SM := Lib.hid (fun (hf : decide ((z.l[m]'hml).size ≤ 100) = true) => (show ∀ j (hj : j < z.l.length), j < m + 1 → decide ((z.l[j]'hj).size ≤ 100) = true from fun j hj hjk => by
                  rcases Nat.lt_or_ge j m with q | q
                  · exact HM.out j hj q
                  · obtain rfl : j = m := by omega
                    exact hf))
                generalize z.l[m]'hml = x at q FM SM
                by_cases h3 : 100 < x.size
                · have h3I : (100 : Int) < x.size := by omega
                  go_wp2_with fail
                  go_ret
                  exact ⟨ret_bool (FIN.out (FM.out (decide_eq_false (by omega)))).symm, bl_from HBk.out hB⟩
                · have h3I : (x.size : Int) ≤ 100 := by omega
                  go_wp2_with fail
                  go_roundw
                  case rel => exact ⟨m + 1, by simp, by omega, Lib.hid (SM.out (decide_eq_true (by omega))), hB⟩
                  case measure => simp [intOf]; omega
              · obtain rfl : m = z.l.length := by omega
                have hz : fitM z = true := by
                  unfold fitM shortL
                  rw [decide_eq_true (p := z.l.length ≤ 60) (by omega), decide_eq_true (p := z.s.size ≤ 100) (by omega), allT (p := fun x : ByteArray => decide (x.size ≤ 100)) (fun i hi => HM.out i hi hi)]; rfl
                have HZ := Lib.hid hz
                clear hz
                go_wp2_with fail
                go_roundw
                case rel => exact ⟨k + 1, by simp, by omega, Lib.hid (STEP.out HZ.out), bl_from HBk.out hB⟩
                case measure => simp [intOf]; omega
      · obtain rfl : k = l.length := by omega
        go_wp2
        go_ret
        refine ⟨ret_bool ?_, hB⟩
        unfold fitsM
        rw [show decide (l.length ≤ 60) = true by simp; omega, allT (p := fitM) (fun i hi => HALL.out i hi hi)]; rfl
/-! ### The live question -/
def bX : ByteArray := ⟨#[120]⟩
def m0 : Nodes := [(bB, rootB), (rootB, bE)]
def m1 : Nodes := [(bA, bB), (bB, rootB), (rootB, bE)]
def m2 : Nodes := [(bA, bB), (bB, rootB), (bC, rootB), (rootB, bE)]
theorem u1 : createR n0 bB rootB = (0, m0) := by decide +kernel
theorem u2 : createR m0 bA bB = (0, m1) := by decide +kernel
theorem u3 : createR m1 bC rootB = (0, m2) := by decide +kernel
theorem gm0 : Good11 m0 := by have := good_createR good_begin bB rootB; rw [show createR [(rootB, ⟨#[]⟩)] bB rootB = (0, m0) from u1] at this; exact this
theorem gm1 : Good11 m1 := by have := good_createR gm0 bA bB; rw [u2] at this; exact this
theorem gm2 : Good11 m2 := by have := good_createR gm1 bC rootB; rw [u3] at this; exact this
def k1 : Nodes := [(bB, bE), (bC, bE), (rootB, bE), (bX, bE)]
def k2 : Nodes := [(bC, bE), (rootB, bE), (bX, bE)]
def k3 : Nodes := [(bA, bE), (bC, bE), (rootB, bE), (bX, bE)]
theorem v1 : markAll [] [bC, rootB, bB, bX] = k1 := by decide +kernel
theorem v2 : nextD m2 (allN k1) = (bB, 2) := by decide +kernel
theorem v3 : clearN k1 bB = (0, k2) := by decide +kernel
theorem v4 : clearN k2 bB = (4, k2) := by decide +kernel
theorem v5 : markAll k2 [bA] = k3 := by decide +kernel
theorem v6 : nextD m2 (allN k3) = (bA, 3) := by decide +kernel
theorem v7 : nextD m2 (allN []) = (bE, 0) := by decide +kernel
theorem r1 : Rising k1 := by have := markAll_rise (N := []) List.Pairwise.nil [bC, rootB, bB, bX]; rw [v1] at this; exact this
theorem r2 : Rising k2 := by have := rising_delN (s := bB) r1; rw [show delN k1 bB = k2 by decide +kernel] at this; exact this
theorem r3 : Rising k3 := by have := markAll_rise r2 [bA]; rw [v5] at this; exact this
end Go.Proofs.Ythaipgbjnigkhaa

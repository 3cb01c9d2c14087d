import Derived.Maps.Own
import Derived.Maps.OwnSet
import Derived.Maps.RangeWalk
import Derived.DeepKeys4
import Derived.Test.YtdcceaafiammfaaFdf
namespace Go.Proofs.Ytdcceaafiammfaa
open Go.RowKit Go.Shelf Go.Maps
set_option linter.unusedVariables false
set_option linter.unusedSimpArgs false
/-! ### Maps keyed by api.Key -/
theorem key_laid : laidOutB Try.prog = true := by kernel_rfl
theorem key_law : Keyed Try.prog 35 := Keyed.of_law (deep_law_laid (m := 5) key_laid (by decide) (of_decide_eq_true (by kernel_rfl)) (by kernel_rfl) (by rw [Try.underlying35]))
def klOf (a b c : ByteArray) : Lit := .string (keyBytes [.string a.data.toList, .string b.data.toList, .string c.data.toList])
theorem keyOf_key3 {P : Program} {K S : TypeId} {fs : Array Field} (hK : P.underlying K = some (.struct fs)) (hS : P.underlying S = some .string) (hkt : P.keyType K = true) (h3 : P.cellsOf K = 3) (h4 : P.cellsOf S = 1)
    (hz : P.types.size = (P.types.size - 1) + 1) (hn : fs.all (·.name != "_") = true) (hf : fs.toList.map (fun f => (f.type, f.offset)) = [(S, 0), (S, 1), (S, 2)]) {a b c : ByteArray} (ha : a.size ≤ maxLen) (hb : b.size ≤ maxLen) (hc : c.size ≤ maxLen) :
    keyOf P K (.agg #[.string a, .string b, .string c]) = some (klOf a b c) := by
  obtain ⟨f0, f1, f2, hfl⟩ : ∃ f0 f1 f2, fs.toList = [f0, f1, f2] := by
    have hl := congrArg List.length hf
    rw [List.length_map] at hl
    match fs.toList, hl with
    | [f0, f1, f2], _ => exact ⟨f0, f1, f2, rfl⟩
  rw [hfl] at hf
  simp only [List.map_cons, List.map_nil, List.cons.injEq, Prod.mk.injEq, and_true] at hf
  obtain ⟨⟨t0, o0⟩, ⟨t1, o1⟩, t2, o2⟩ := hf
  have h5 : Value.formed P K (.agg #[.string a, .string b, .string c]) = true := by simp [Value.formed, h3, hK]
  have hm : ∀ (m : Nat) (x : ByteArray), x.size ≤ maxLen → P.keyLits (m + 1) S [.string x] = some [.string x.data.toList] := fun m x hx => by simp [Program.keyLits, hS, hx]
  unfold keyOf
  rw [hK]
  simp only [hkt, h5, Bool.and_true, if_true]
  rw [hz]
  generalize P.types.size - 1 = m
  have hcs : (Value.agg #[Value.string a, Value.string b, Value.string c]).cells.toList = [.string a, .string b, .string c] := rfl
  rw [hcs]; unfold Program.keyLits; rw [hK]
  simp only [h3, hn, List.length_cons, List.length_nil, hfl, List.mapM_cons, List.mapM_nil, t0, t1, t2, o0, o1, o2, h4]
  simp [hm _ _ ha, hm _ _ hb, hm _ _ hc, klOf]
theorem keyOf_key {a b c : ByteArray} (ha : a.size ≤ maxLen) (hb : b.size ≤ maxLen) (hc : c.size ≤ maxLen) : keyOf Try.prog 35 (.agg #[.string a, .string b, .string c]) = some (klOf a b c) :=
  keyOf_key3 Try.underlying35 Try.underlying9 (by kernel_rfl) (by kernel_rfl) (by kernel_rfl) (by kernel_rfl) (by kernel_rfl) (by kernel_rfl) ha hb hc
theorem keyLits_string {P : Program} {S : TypeId} (hS : P.underlying S = some .string) {m : Nat} {x : Value} {ls : List Lit} (h : P.keyLits m S [x] = some ls) : ∃ s, x = .string s := by
  cases m with
  | zero => unfold Program.keyLits at h; cases h
  | succ m =>
    unfold Program.keyLits at h
    rw [hS] at h
    cases x <;> first | exact ⟨_, rfl⟩ | (simp at h; done)
theorem keyOf_inv3 {P : Program} {K S : TypeId} {fs : Array Field} (hK : P.underlying K = some (.struct fs)) (hS : P.underlying S = some .string) (h3 : P.cellsOf K = 3) (h4 : P.cellsOf S = 1)
    (hz : P.types.size = (P.types.size - 1) + 1) (hf : fs.toList.map (fun f => (f.type, f.offset)) = [(S, 0), (S, 1), (S, 2)]) {key : Value} {l : Lit} (h : keyOf P K key = some l) : ∃ a b c, key = .agg #[.string a, .string b, .string c] := by
  obtain ⟨f0, f1, f2, hfl⟩ : ∃ f0 f1 f2, fs.toList = [f0, f1, f2] := by
    have hl := congrArg List.length hf
    rw [List.length_map] at hl
    match fs.toList, hl with
    | [f0, f1, f2], _ => exact ⟨f0, f1, f2, rfl⟩
  rw [hfl] at hf
  simp only [List.map_cons, List.map_nil, List.cons.injEq, Prod.mk.injEq, and_true] at hf
  obtain ⟨⟨t0, o0⟩, ⟨t1, o1⟩, t2, o2⟩ := hf
  unfold keyOf at h
  rw [hK] at h
  have hfm : Value.formed P K key = true := by
    cases hq : Value.formed P K key with
    | true => rfl
    | false => simp [hq] at h
  obtain ⟨cs, rfl⟩ : ∃ cs, key = .agg cs := by
    cases key <;> first | exact ⟨_, rfl⟩ | (simp [Value.formed, hK] at hfm; done)
  have hcs : cs.size = 3 := by simpa [Value.formed, hK, h3] using hfm
  obtain ⟨x0, x1, x2, rfl⟩ : ∃ x0 x1 x2, cs = #[x0, x1, x2] := by
    obtain ⟨cl⟩ := cs
    match cl, hcs with
    | [x0, x1, x2], _ => exact ⟨x0, x1, x2, rfl⟩
  simp only [hfm, Bool.and_true] at h
  rw [hz] at h
  generalize P.types.size - 1 = m at h
  have hcl : (Value.agg #[x0, x1, x2]).cells.toList = [x0, x1, x2] := rfl
  split at h
  · rw [hcl] at h
    unfold Program.keyLits at h
    rw [hK] at h
    simp only [h3, List.length_cons, List.length_nil, hfl, List.mapM_cons, List.mapM_nil, t0, t1, t2, o0, o1, o2, h4, List.drop_zero, List.drop_succ_cons, List.take_succ_cons, List.take_zero] at h
    have g0 : ∃ s, x0 = .string s := by
      cases q : P.keyLits (m + 1) S [x0] with
      | none => simp [q] at h
      | some ls => exact keyLits_string hS q
    have g1 : ∃ s, x1 = .string s := by
      cases q : P.keyLits (m + 1) S [x1] with
      | none => simp [q] at h
      | some ls => exact keyLits_string hS q
    have g2 : ∃ s, x2 = .string s := by
      cases q : P.keyLits (m + 1) S [x2] with
      | none => simp [q] at h
      | some ls => exact keyLits_string hS q
    obtain ⟨a, rfl⟩ := g0; obtain ⟨b, rfl⟩ := g1; obtain ⟨c, rfl⟩ := g2
    exact ⟨a, b, c, rfl⟩
  · cases h
theorem key_inv (key : Value) (l : Lit) (h : keyOf Try.prog 35 key = some l) : ∃ x : ByteArray × ByteArray × ByteArray, key = .agg #[.string x.1, .string x.2.1, .string x.2.2] := by
  obtain ⟨a, b, c, h⟩ := keyOf_inv3 Try.underlying35 Try.underlying9 (by kernel_rfl) (by kernel_rfl) (by kernel_rfl) (by kernel_rfl) h
  exact ⟨(a, b, c), h⟩
theorem int_inv (v : Value) (y : DataW Unit × List MemPlace) (h : plainElem Try.prog 3 v = some y) : ∃ c : Int, v = .int .i64 c := by
  obtain ⟨a, rfl, _⟩ := plainElem_int_inv Try.underlying3 h
  exact ⟨a, rfl⟩
def kl (x : Item) : Lit := klOf x.k x.s x.n
def keyV (x : Item) : Value := .agg #[.string x.k, .string x.s, .string x.n]
def FitK (l : List Item) : Prop := ∀ x ∈ l, x.k.size ≤ maxLen ∧ x.s.size ≤ maxLen ∧ x.n.size ≤ maxLen
theorem keyOf_item {x : Item} (h : x.k.size ≤ maxLen ∧ x.s.size ≤ maxLen ∧ x.n.size ≤ maxLen) : keyOf Try.prog 35 (keyV x) = some (kl x) := keyOf_key h.1 h.2.1 h.2.2
theorem kl_same {x y : Item} (h : sameK x y = true) : kl x = kl y := by
  simp only [sameK, same6, Bool.and_eq_true, decide_eq_true_eq] at h
  unfold kl; rw [h.1.1, h.1.2, h.2]
theorem kl_inj {x y : Item} (hx : x.k.size ≤ maxLen ∧ x.s.size ≤ maxLen ∧ x.n.size ≤ maxLen) (hy : y.k.size ≤ maxLen ∧ y.s.size ≤ maxLen ∧ y.n.size ≤ maxLen) (h : kl x = kl y) : sameK x y = true := by
  have e := key_law.inj (keyOf_item hx) (h ▸ keyOf_item hy)
  unfold keyV at e
  simp only [Value.agg.injEq, Array.mk.injEq, List.cons.injEq, Value.string.injEq] at e
  simp [sameK, same6, e]
def mapOf (l : List Item) (k : Nat) : DataW Unit := (List.range k).foldl (fun D i => D.put (kl (itemAt l i)) (.lit (.int .i64 i))) (.map [])
theorem mapOf_succ (l : List Item) (k : Nat) : mapOf l (k + 1) = (mapOf l k).put (kl (itemAt l k)) (.lit (.int .i64 k)) := by
  unfold mapOf; rw [List.range_succ, List.foldl_append]; rfl
theorem mapOf_isMap (l : List Item) : ∀ k, IsMap (mapOf l k)
  | 0 => isMap_empty
  | k + 1 => by rw [mapOf_succ]; exact (mapOf_isMap l k).put _ _
theorem mapOf_inv (l : List Item) (key : Lit) (y : DataW Unit) : ∀ k, (∀ zd, (mapOf l k).atKey key zd = y) → ∃ i, i < k ∧ kl (itemAt l i) = key ∧ (∀ j, i < j → j < k → kl (itemAt l j) ≠ key) ∧ y = .lit (.int .i64 i)
  | 0, h => by
    have h1 := h (.lit (.bool true))
    have h2 := h (.lit (.bool false))
    have e1 : (mapOf l 0).atKey key (.lit (.bool true)) = .lit (.bool true) := rfl
    have e2 : (mapOf l 0).atKey key (.lit (.bool false)) = .lit (.bool false) := rfl
    rw [e1] at h1; rw [e2] at h2
    rw [← h1] at h2; cases h2
  | k + 1, h => by
    rw [mapOf_succ] at h
    by_cases hk : kl (itemAt l k) = key
    · refine ⟨k, by omega, hk, fun j h1 h2 => by omega, ?_⟩
      rw [← h (.map []), hk, atKey_put_same (mapOf_isMap l k) (by rw [← hk]; trivial)]
    · obtain ⟨i, h1, h2, h3, h4⟩ := mapOf_inv l key y k (fun zd => by rw [← h zd, atKey_put_other (Ne.symm hk)])
      refine ⟨i, by omega, h2, fun j hj hjk => ?_, h4⟩
      rcases Nat.lt_or_ge j k with q | q
      · exact h3 j hj q
      · obtain rfl : j = k := by omega
        exact hk
theorem mapOf_has (l : List Item) : ∀ {k i : Nat}, i < k → Maps.has (mapOf l k) (kl (itemAt l i)) = true
  | k + 1, i, h => by
    rw [mapOf_succ]
    by_cases e : kl (itemAt l i) = kl (itemAt l k)
    · rw [e]; exact has_put_same (mapOf_isMap l k) (show WideAt.IsKeyLit (.string _) from trivial) _
    · rw [has_put_other e]
      refine mapOf_has l ?_
      rcases Nat.lt_or_ge i k with q | q
      · exact q
      · obtain rfl : i = k := by omega
        exact absurd rfl e
def lastB (l : List Item) (i : Nat) : Bool := (List.range l.length).all fun j => !(decide (i < j) && sameK (itemAt l j) (itemAt l i))
def settledAll (l : List Item) (cov : Nat) : Bool := (List.range l.length).all fun i => !lastB l i || stB l cov i
theorem itemAt_mem {l : List Item} {i : Nat} (h : i < l.length) : itemAt l i ∈ l := by rw [itemAt_eq h]; exact List.getElem_mem h
theorem last_iff {l : List Item} (hF : FitK l) {i : Nat} (hi : i < l.length) : lastB l i = true ↔ ∀ j, i < j → j < l.length → kl (itemAt l j) ≠ kl (itemAt l i) := by
  unfold lastB
  rw [List.all_eq_true]
  constructor
  · intro h j h1 h2 e
    have := h j (List.mem_range.2 h2)
    rw [kl_inj (hF _ (itemAt_mem h2)) (hF _ (itemAt_mem hi)) e] at this
    simp [h1] at this
  · intro h j hj
    rw [List.mem_range] at hj
    cases hs : sameK (itemAt l j) (itemAt l i) with
    | false => simp
    | true =>
      rcases Nat.lt_or_ge i j with q | q
      · exact absurd (kl_same hs) (h j q hj)
      · simp; omega
set_option maxRecDepth 100000 in
set_option maxHeartbeats 4000000 in
theorem fsettledAll_calls {fp : Nat} {v : Value} {l : List Item} {cov : Nat} (w : World) (h : FeedAt w fp v l cov) (hl : l.length ≤ 1000000) (hF : FitK l) :
    Calls Try.prog 23 #[.pointer (some ⟨fp, 0, none⟩)] w fun e w' => e = .returned (.bool (settledAll l cov)) ∧ Below w.heap.size w w' := by
  have hmm := @run_makeMap Try.prog
  have hmf : ∀ (fn : Fn) (first cap : Array Value) (w : World), (Instr.makeFunc fn first cap).run Try.prog w = .ok (.func fn first cap) w := fun _ _ _ _ => rfl
  obtain ⟨ao, cap, rfl⟩ := h.v0
  have d0 := blk_cell h.box 0
  have hfz := blk_lt h.box
  have H := Lib.hid h
  have HF := Lib.hid hF
  clear h hF
  go_enter Try.func23, Try.ntmps23
  go_wp2
  go_loopw [19] (fun i wr => ∃ k : Nat, i = .int .i64 k ∧ k ≤ l.length ∧ wr.ownsMap Try.prog 35 (plainElem Try.prog 3) w.heap.size k (mapOf l k) ∧ Below w.heap.size w wr) (fun i _ => l.length - (intOf i).toNat)
  case atStart => exact ⟨0, rfl, Nat.zero_le _, World.ownsMap_made _ _ _ _, (Below.refl _ _).alloc (Nat.le_refl _) _⟩
  case round =>
    obtain ⟨k, rfl, hk, hown, hnx⟩ := hrel
    by_cases hkl : k < l.length
    · have hkI : (k : Int) < l.length := by omega
      have Hr := H.out.below hnx
      obtain ⟨g, cap', he, -, a0, a1, a2, a3, -⟩ := item_cells Hr k hkl
      cases he
      have HZ := Lib.hid (itemAt_eq hkl)
      generalize l[k]'hkl = z at a0 a1 a2 a3 HZ
      have hB := Below.refl wr.heap.size wr
      have HFZ := HF.out _ (itemAt_mem hkl)
      rw [HZ.out] at HFZ
      go_wp2_with (at_mapUpdate; refine wpList_mapUpdate_own _ rfl _ _ _ 82 rfl 35 3 key_law Try.underlying82 _ w.heap.size k _ rfl (hown.alloc _) (by unfold maxLen; omega) _ _ _ rfl rfl (keyOf_item HFZ) _ [] (plainElem_int Try.underlying3 (WalkArith.wf_i64 (by omega))) ?_; intro w1 hown1 hgrow1)
      go_roundw
      case rel => exact ⟨k + 1, by simp, by omega, by rw [mapOf_succ, HZ.out]; exact hown1, (hnx.alloc hnx.size _).grown hgrow1 (by simp; have := hnx.size; omega) (fun j hj => by cases hj; exact Nat.le_refl _)⟩
      case measure => simp [intOf]; omega
    · obtain rfl : k = l.length := by omega
      obtain ⟨U, rfl⟩ : ∃ U : World, U = wr := ⟨_, rfl⟩
      go_wp2_with (at_range; refine wpList_range_own _ rfl _ 82 rfl 35 3 key_law Try.underlying82 _ w.heap.size l.length _ rfl hown ?_; intro w0 hrg0 hg0 hs0)
      go_frame
      go_loopw [8] (fun _ wq => ∃ (left : Lit → Bool) (cnt : Nat), wq.ranges Try.prog 35 (plainElem Try.prog 3) w.heap.size U.heap.size l.length (mapOf l l.length) left cnt ∧ Below w.heap.size w wq ∧ (∀ i, i < l.length → lastB l i = true → left (kl (itemAt l i)) = true ∨ stB l cov i = true)) (fun _ wq => wq.rangeLeft w.heap.size U.heap.size)
      case atStart => exact ⟨_, _, hrg0, (hnx.grown hg0 hnx.size (fun j hj => by cases hj)), fun i hi _ => .inl (mapOf_has l hi)⟩
      case round =>
        obtain ⟨left, cnt, hrg, hnq, hdone⟩ := hrel
        go_wp2_with (at_next; refine wpList_next_ranges _ rfl _ rfl 35 key_law _ (fun x : ByteArray × ByteArray × ByteArray => Value.agg #[.string x.1, .string x.2.1, .string x.2.2]) (fun c : Int => Value.int .i64 c) key_inv int_inv w.heap.size U.heap.size l.length _ _ _ rfl hrg ?_ ?_)
        · intro _ hl0
          go_wp2
          go_ret
          refine ⟨?_, hnq⟩
          have e : settledAll l cov = true := by
            unfold settledAll
            rw [List.all_eq_true]
            intro i hi
            rw [List.mem_range] at hi
            cases hlb : lastB l i with
            | false => rfl
            | true => rcases hdone i hi hlb with q | q
                      · rw [hl0] at q; cases q
                      · simp [q]
          rw [e]; rfl
        · intro a b c i key y1 y2 w1 cnt1 hkx hlx hcy hat hrg1 hlt hg1 hs1 hen
          obtain ⟨j, hj, hjk, hjl, hjy⟩ := mapOf_inv l key y1 l.length hat
          have hij : i = (j : Int) := by
            have q := hcy
            simp [plainElem, Try.underlying3] at q
            rw [← q.2.1] at hjy
            cases hjy; rfl
          subst hij
          have hlast : lastB l j = true := (last_iff HF.out hj).2 (fun j' h1 h2 e => hjl j' h1 h2 (e.trans hjk))
          have hn1 : Below w.heap.size w w1 := hnq.grown hg1 hnq.size (fun j hj => by cases hj; exact hnx.size)
          obtain ⟨sb, hsb⟩ : ∃ sb, stB l cov j = sb := ⟨_, rfl⟩
          have HSB := Lib.hid hsb
          have HL := Lib.hid hlast
          have HD := Lib.hid hdone
          have HJ := Lib.hid hjk
          clear hsb hlast hdone hjk hjl hjy hat hcy hkx
          cases sb with
          | false =>
            go_wp2_with (go_at_call 62; refine (fsettled_calls _ (H.out.below hn1) j hj hl).mono ?_; rintro e w' ⟨rfl, hb⟩; rw [HSB.out])
            go_ret
            refine ⟨?_, hn1.trans (hb.mono hn1.size)⟩
            have e : settledAll l cov = false := by
              unfold settledAll
              rw [List.all_eq_false]
              exact ⟨j, List.mem_range.2 hj, by simp [HL.out, HSB.out]⟩
            rw [e]; rfl
          | true =>
            go_wp2_with (go_at_call 62; refine (fsettled_calls _ (H.out.below hn1) j hj hl).mono ?_; rintro e w' ⟨rfl, hb⟩; rw [HSB.out])
            have hgb : w1.grownBy w' none := ⟨hb.os, hb.tape, hb.output, hb.size, fun k hk _ => hb.block k hk⟩
            have hrg2 := hrg1.kept hgb (by simp) (by simp)
            go_roundw
            case rel =>
              refine ⟨_, cnt1, hrg2, hn1.trans (hb.mono hn1.size), fun i hi hli => ?_⟩
              rcases HD.out i hi hli with q | q
              · cases hs : (kl (itemAt l i)).sameKey key with
                | false => left; rw [q]; rfl
                | true =>
                  right
                  have e1 : kl (itemAt l i) = kl (itemAt l j) := (WideAt.sameKey_eq hs).trans HJ.out.symm
                  have hij : i = j := by
                    rcases Nat.lt_trichotomy i j with h | h | h
                    · exact absurd e1.symm ((last_iff HF.out hi).1 hli j h hj)
                    · exact h
                    · exact absurd e1 ((last_iff HF.out hj).1 HL.out i h hi)
                  rw [hij]; exact HSB.out
              · exact .inr q
            case measure => rw [hrg2.left_eq, hrg.left_eq]; exact hlt
end Go.Proofs.Ytdcceaafiammfaa

import Derived.Test.YteomicjjaajblaaVce
import Derived.Test.YteomicjjaajblaaSeqM
import Derived.Test.YteomicjjaajblaaShelf
import Derived.Test.YteomicjjaajblaaStr0
import Derived.TacticsInMore
namespace Go.Proofs.Yteomicjjaajblaa
open Go.RowKit Go.Shelf Go.Maps
set_option linter.unusedVariables false
set_option linter.unusedSimpArgs false
/-! ### Maps of wide numbers by name -/
def kB (s : ByteArray) : Lit := .string s.data.toList
theorem keyB_lit : KeyLit kB ltB where
  same := fun a s => by
    unfold kB Lit.sameKey
    rw [Bool.eq_iff_iff, beq_iff_eq, decide_eq_true_eq]
    exact ⟨data_inj, fun h => by rw [h]⟩
  before := fun a s => by rw [ltB_eq]; rfl
theorem kB_key {s : ByteArray} (h : s.size ≤ maxLen) : keyOf Try.prog 9 (.string s) = some (kB s) := by simp [keyOf, Try.underlying9, mapKey, h, kB]
theorem kB_keyed : Keyed Try.prog 9 := string_keyed Try.underlying9
theorem zero_wide (w : World) : (zeroValue 40).run Try.prog w = .ok (.agg #[.int .i64 0, .int .u64 0]) w := by kernel_rfl
theorem wideV_zero : wideV 0 = .agg #[.int .i64 0, .int .u64 0] := rfl
def WMap (w : World) (mb : Nat) (M : Vec) : Prop := w.ownsMap Try.prog 9 RV mb M.length (dmA kB wideV M)
section
variable {w w' : World} {mb : Nat} {M : Vec}
theorem WMap.below (h : WMap w mb M) (hb : Below w.heap.size w w') : WMap w' mb M := mv_below h hb
theorem wmap_look (h : WMap w mb M) {s : ByteArray} (hs : s.size ≤ 1000000) :
    (Instr.lookup 83 (.map (some mb)) (.string s) false).run Try.prog w = .ok (.agg #[.int .i64 (whi (getV M s)), .int .u64 (wlo (getV M s))]) w := by
  rw [mv_look h kB_keyed Try.underlying83 (zero_wide w) (kB_key (by unfold Go.maxLen; omega)), val_dmA keyB_lit]
  unfold getV
  cases getA M s <;> rfl
/-- A map's update, by itself. -/
theorem wp_mapUpd {P : Program} {o : Oper} {a : Act} {K : Act → World → Prop} {Q : Exit → Act → World → Prop} (w : World) (m x v : Operand) (t : TypeId) (hop : o.op = Op.mapUpdate t m x v)
    (k e : TypeId) (Kk : Keyed P k) (ht : P.underlying t = some (.map k e)) (b n : Nat) (D : DataW Value) (hm : a.eval m = .map (some b)) (hown : w.ownsMap P k RV b n D) (hn : n < maxLen) (key val : Value) (kl : Lit) (hx : a.eval x = key) (hv : a.eval v = val) (hkey : keyOf P k key = some kl)
    (hK : ∀ w', w'.ownsMap P k RV b (n + 1) (D.put kl (.held val)) → w.grownBy w' (some b) → K (a.put o.dst undef) w') : o.wp P a w K Q := by
  obtain ⟨w', hrun, r1, r2⟩ := hown.update Kk ht hn hkey (d := .held val) (ps := []) rfl
  unfold Oper.wp
  simp [execOp, hop, hm, hx, hv, hrun, Result.andThen]
  exact hK w' r1 r2
theorem wmap_put {s : ByteArray} {x : Int} (h : w.ownsMap Try.prog 9 RV mb (M.length + 1) ((dmA kB wideV M).put (kB s) (.held (wideV x)))) : WMap w mb (putA ltB M s x) := by
  rw [put_dmA keyB_lit] at h
  have := mv_tight h
  rw [size_dmA keyB_lit] at this
  exact this
end
theorem strKeys_dmA (M : Vec) : strKeys (dmA kB wideV M) = M.map fun p => p.1.data.toList := by
  show (M.map (fun p : ByteArray × Int => ((kB p.1, DataW.held (wideV p.2)) : Lit × DataW Value))).map (fun p => strOf p.1) = _
  rw [List.map_map]; rfl
theorem sorted_keysA {M : Vec} (hR : RiseA ltB M) : (M.map fun p => p.1.data.toList).mergeSort (fun x y => decide (x ≤ y)) = M.map fun p => p.1.data.toList := by
  apply List.mergeSort_of_pairwise
  rw [List.pairwise_map]
  refine hR.imp fun {a b} h => ?_
  unfold ltB at h
  rw [bytesLess_eq] at h
  rw [Lib.toList_data, Lib.toList_data] at h
  have := of_decide_eq_true h
  exact decide_eq_true (List.le_of_lt this)
theorem info_entry : (Try.prog.info? 64).map (fun i => (i.zero, i.size, i.bytes)) = some (some (.agg #[.string ⟨#[]⟩, .int .i64 0, .int .u64 0]), 3, 32) := by kernel_rfl
theorem vecC_app (v : Vec) (p : ByteArray × Int) : vecC (v ++ [p]) = vecC v ++ [.string p.1, .int .i64 (whi p.2), .int .u64 (wlo p.2)] := by simp [vecC, encE]
theorem app_entry {ops : Array Oper} {rest : List Oper} {o : Oper} {a : Act} {Q : Exit → Act → World → Prop} {w : World} (hgd : o.guard = none) (s x : Operand)
    (ho : o.op = .call { callee := .builtin .append, args := #[s, x], argTypes := #[30, 30] })
    (base : Nat) (tb : TypeId) (v : Value) (l : Vec) (u : ByteArray × Int) (hs : a.eval s = v) (hown : w.ownsRow base 64 3 v l.length (vecC l)) (c : Nat) (hx : a.eval x = .slice (some ⟨w.heap.size, 0, none⟩) 1 c)
    (hbase : base ≤ w.heap.size) (hlen : l.length + 1 ≤ 100000000)
    (h : ∀ g cap w1, w1.ownsRow base 64 3 (.slice (some ⟨g, 0, none⟩) (l.length + 1) cap) (l ++ [u]).length (vecC (l ++ [u])) → Kept (fun k => v.ownBlock = some k) w w1 → wpList Try.prog ops Q rest (a.put o.dst (.slice (some ⟨g, 0, none⟩) (l.length + 1) cap)) w1) :
    wpList Try.prog ops Q (o :: rest) a (w.alloc (.cells #[.string u.1, .int .i64 (whi u.2), .int .u64 (wlo u.2)] tb)) := by
  obtain ⟨i0, hi, hz0, hz1, hz2⟩ := info_parts info_entry
  refine app_rw hgd s x _ ho base _ i0 _ 3 32 Try.underlying30 hi hz0 hz1 hz2 rfl (by decide) tb v l.length (vecC l) [.string u.1, .int .i64 (whi u.2), .int .u64 (wlo u.2)] hs hown c hx rfl (by simp [Value.oneCell']) hbase hlen (by decide) ?_
  intro g cap w1 h1 h2 h3
  refine h g cap w1 ?_ h2
  rw [List.length_append, vecC_app]; exact h1
theorem app_entryE {ops : Array Oper} {rest : List Oper} {o : Oper} {a : Act} {Q : Exit → Act → World → Prop} {w : World} (hgd : o.guard = none) (s x : Operand)
    (ho : o.op = .call { callee := .builtin .append, args := #[s, x], argTypes := #[30, 30] })
    (base : Nat) (tb : TypeId) (v : Value) (l : Vec) (u : ByteArray × Int) (hi lo : Int) (e1 : whi u.2 = hi) (e2 : wlo u.2 = lo) (hs : a.eval s = v) (hown : w.ownsRow base 64 3 v l.length (vecC l)) (c : Nat) (hx : a.eval x = .slice (some ⟨w.heap.size, 0, none⟩) 1 c)
    (hbase : base ≤ w.heap.size) (hlen : l.length + 1 ≤ 100000000)
    (h : ∀ g cap w1, w1.ownsRow base 64 3 (.slice (some ⟨g, 0, none⟩) (l.length + 1) cap) (l ++ [u]).length (vecC (l ++ [u])) → Kept (fun k => v.ownBlock = some k) w w1 → wpList Try.prog ops Q rest (a.put o.dst (.slice (some ⟨g, 0, none⟩) (l.length + 1) cap)) w1) :
    wpList Try.prog ops Q (o :: rest) a (w.alloc (.cells #[.string u.1, .int .i64 hi, .int .u64 lo] tb)) := by
  subst e1; subst e2; exact app_entry hgd s x ho base tb v l u hs hown c hx hbase hlen h
theorem someV_succ {M : Vec} {k : Nat} (h : k < M.length) : someV (M.take (k + 1)) = if (M[k]'h).2 = 0 then someV (M.take k) else someV (M.take k) ++ [M[k]'h] := by
  unfold someV
  rw [List.take_succ_eq_append_getElem h, List.filter_append]
  split
  · rename_i e; rw [List.filter_cons_of_neg (by simp [e])]; simp
  · rename_i e; rw [List.filter_cons_of_pos (by simpa using e)]; rfl
theorem someV_le (M : Vec) : (someV M).length ≤ M.length := List.length_filter_le _ _
set_option maxRecDepth 100000 in
set_option maxHeartbeats 8000000 in
theorem made_calls (w : World) {mb : Nat} {M : Vec} (h : WMap w mb M) (hR : RiseA ltB M) (hs : ∀ p ∈ M, p.1.size ≤ 1000) (hl : M.length ≤ 1000) :
    Calls Try.prog 63 #[.map (some mb)] w fun e w' => ∃ x, e = .returned x ∧ w'.ownsRow w.heap.size 64 3 x (someV M).length (vecC (someV M)) ∧ Below w.heap.size w w' := by
  have hB := Below.refl w.heap.size w
  have H := Lib.hid h
  have HS := Lib.hid hs
  have HR := Lib.hid hR
  have hsz : Maps.size (dmA kB wideV M) ≤ maxLen := by rw [size_dmA keyB_lit]; unfold Go.maxLen; omega
  have hby : Maps.size (dmA kB wideV M) * 16 ≤ 140737488355328 := by rw [size_dmA keyB_lit]; omega
  have HSZ := Lib.hid hsz; have HBY := Lib.hid hby
  clear h hs hR hsz hby
  go_enter Try.func63, Try.ntmps63
  go_wp2_with fail
  go_step3
  go_wp2_with fail
  go_step3
  go_wp2_with fail
  refine ((callsIn_wide (n := 5)).1 (Try.maps_Keys_82 _ _)).mono ?_
  rintro e w1 ⟨rfl, rfl⟩
  go_wp2_with fail
  refine ((callsIn_wide (n := 5)).1 (Try.slices_Sorted_keys_81_82 mb M.length (dmA kB wideV M) RV w H.out HSZ.out HBY.out)).mono ?_
  rintro e w2 ⟨v, ss, rfl, hS, hrow, hnil, hb⟩
  have e1 : ss.mergeSort (fun x y => decide (x ≤ y)) = M.map fun p => p.1.data.toList := by
    rw [strKeys_dmA] at hS
    exact (mergeSort_of_perm hS).trans (sorted_keysA HR.out)
  have e2 : ss.length = (keysA M).length := by have := hS.length_eq; rw [strKeys_dmA] at this; simpa [keysA] using this
  have e3 : (M.map fun p => p.1.data.toList).map Go.Proofs.encStr = strC (keysA M) := by
    unfold strC keysA
    rw [List.map_map, List.map_map]
    exact List.map_congr_left fun p _ => rfl
  rw [e1, e2, e3, keysA_len] at hrow
  obtain ⟨av, cv, rfl⟩ := rw_form hrow
  have HK := Lib.hid (show StrS w2 (.slice av M.length cv) (keysA M) from by have := strS_of (b := (w.alloc (Obj.cells #[Value.map (some mb)] 83)).heap.size) (v := .slice av M.length cv) (l := keysA M) (by rw [keysA_len]; exact hrow); exact this)
  have hB2 : Below w.heap.size w w2 := ((Below.refl _ w).alloc (Nat.le_refl _) _).trans (hb.mono (by simp))
  have HB := Lib.hid hB2
  clear hB hb hrow hnil hS e1 e2 e3 hB2
  obtain ⟨V, rfl⟩ : ∃ V : World, V = w2 := ⟨_, rfl⟩
  go_wp2_with fail
  go_loopw [3, 10] (fun x i wr => ∃ k : Nat, i = .int .i64 k ∧ k ≤ M.length ∧ Hid (wr.ownsRow V.heap.size 64 3 x (someV (M.take k)).length (vecC (someV (M.take k)))) ∧ Below V.heap.size V wr) (fun _ i _ => M.length - (intOf i).toNat)
  case atStart => exact ⟨0, rfl, Nat.zero_le _, Lib.hid (World.ownsRow_nil _ _ _ _), Below.refl _ _⟩
  case round =>
    obtain ⟨k, rfl, hk, RX, hBV⟩ := hrel
    by_cases hkl : k < M.length
    · have hkI : (k : Int) < M.length := by omega
      have hka : k < (keysA M).length := by rw [keysA_len]; exact hkl
      obtain ⟨b, o, c, he, q⟩ := HK.out.at' hka
      rw [keysA_len] at he
      cases he
      have q := cb hBV q
      have hlen : (someV (M.take k)).length ≤ k := by have := someV_le (M.take k); rw [List.length_take] at this; omega
      have hg := getV_mem HR.out (List.getElem_mem hkl)
      have hps := HS.out _ (List.getElem_mem hkl)
      have HSTEP := Lib.hid (someV_succ hkl)
      rw [show (keysA M)[k]'hka = (M[k]'hkl).1 by simp [keysA]] at q
      obtain ⟨p, hp⟩ : ∃ p, M[k]'hkl = p := ⟨_, rfl⟩
      rw [hp] at q hg hps HSTEP
      have hlk := wmap_look ((H.out.below HB.out).below hBV) (s := p.1) (by omega)
      rw [hg] at hlk
      clear hg hp
      have HBV := Lib.hid hBV
      clear hBV
      obtain ⟨U, rfl⟩ : ∃ U : World, U = wr := ⟨_, rfl⟩
      by_cases hz : p.2 = 0
      · have HZ := Lib.hid hz
        have h1 : whi p.2 = 0 := by rw [hz]; rfl
        have h2 : wlo p.2 = 0 := by rw [hz]; rfl
        rw [h1, h2] at hlk
        clear hz h1 h2
        go_wp2_with fail
        go_roundw
        case rel => exact ⟨k + 1, by simp, by omega, by rw [HSTEP.out, if_pos HZ.out]; exact RX, HBV.out⟩
        case measure => simp [intOf]; omega
      · rw [if_neg hz] at HSTEP
        have hz2 := mt wz_iff.1 hz
        clear hz
        by_cases h1 : whi p.2 = 0
        · have h2 : ¬ wlo p.2 = 0 := fun e => hz2 ⟨h1, e⟩
          clear hz2
          have H1 := Lib.hid h1
          go_wp2_with (at_builtin; refine app_entryE rfl (.tmp 19) (.tmp 25) rfl V.heap.size _ _ (someV (M.take k)) p 0 (wlo p.2) H1.out rfl rfl RX.out 1 rfl HBV.out.size (by omega) ?_; intro g cap w3 hown' hk')
          have hB3 := Lib.hid (HBV.out.trans (hk'.below (B := V.heap.size) HBV.out.size (fun q hq => (rw_type RX.out hq).1)))
          have RX3 := Lib.hid hown'
          clear hown' hk'
          go_wp2_with fail
          go_roundw
          case rel => exact ⟨k + 1, by simp, by omega, by rw [HSTEP.out]; exact RX3, hB3.out⟩
          case measure => simp [intOf]; omega
        · clear hz2
          go_wp2_with (at_builtin; refine app_entry rfl (.tmp 19) (.tmp 25) rfl V.heap.size _ _ (someV (M.take k)) p rfl RX.out 1 rfl HBV.out.size (by omega) ?_; intro g cap w3 hown' hk')
          have hB3 := Lib.hid (HBV.out.trans (hk'.below (B := V.heap.size) HBV.out.size (fun q hq => (rw_type RX.out hq).1)))
          have RX3 := Lib.hid hown'
          clear hown' hk'
          go_wp2_with fail
          go_roundw
          case rel => exact ⟨k + 1, by simp, by omega, by rw [HSTEP.out]; exact RX3, hB3.out⟩
          case measure => simp [intOf]; omega
    · obtain rfl : k = M.length := by omega
      have hX := RX.out
      rw [List.take_length] at hX
      have HX := Lib.hid hX
      have HBV := Lib.hid (HB.out.trans (hBV.mono HB.out.size))
      have hVw := HB.out.size
      clear hX RX hBV
      go_wp2_with fail
      try simp only [Exit.noGoto]
      go_ret
      exact ⟨_, rfl, rw_mono HX.out hVw, HBV.out⟩
end Go.Proofs.Yteomicjjaajblaa

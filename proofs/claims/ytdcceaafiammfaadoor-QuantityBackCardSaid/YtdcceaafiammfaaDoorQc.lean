import Derived.Test.YtdcceaafiammfaaDoorProg
import Derived.Test.YtdcceaafiammfaaDoorQb
namespace Go.Proofs.YtdcceaafiammfaaDoor
open Go.RowKit
set_option linter.unusedVariables false
set_option linter.unusedSimpArgs false
set_option maxHeartbeats 4000000 in
set_option maxRecDepth 100000 in
theorem qfactor_calls (s : ByteArray) (w : World) (q : QV w) : Calls Tryd.prog 11 #[.string s] w fun e w' => e = .returned (.int .i64 (facV s.toList)) ∧ Below w.heap.size w w' := by
  have hB := Below.refl w.heap.size w
  go_enter Tryd.func11, Tryd.ntmps11
  go_upto_region 1 with fail
  go_upto_region 2 with (refine load_suf rfl _ rfl rfl q ?_)
  clear q
  generalize hA : Value.agg sufA = A
  have HA := Lib.hid (suf_index A hA)
  clear hA
  go_loopw [4, 6] (fun _ i wr => ∃ k : Nat, i = .int .i64 k ∧ k ≤ 9 ∧ Hid (facV s.toList = facR k s.toList) ∧ Below w.heap.size w wr) (fun _ i _ => 9 - (intOf i).toNat)
  case atStart => exact ⟨0, rfl, by omega, Lib.hid rfl, hB⟩
  case round =>
    clear hB
    obtain ⟨k, rfl, hk, hf, hB⟩ := hrel
    by_cases hlt : k < 9
    · have hix := HA.out k hlt
      have HH := Lib.hid (suf_head k hlt)
      obtain ⟨T, hT⟩ : ∃ T, sufT k = T := ⟨_, rfl⟩
      obtain ⟨F, hF⟩ : ∃ F, sufF k = F := ⟨_, rfl⟩
      rw [hT, hF] at hix HH
      clear hT hF
      have hkn : (k : Int) < 9 := by omega
      go_wp2_with fail
      · go_ret
        have h : (T.toList == s.toList) = true := by assumption
        exact ⟨ret_int (by rw [hf.out, facR_hit HH.out (beq_sw h)]), hB.alloc (by have := hB.size; omega) _⟩
      · have h : (T.toList == s.toList) = false := by assumption
        go_roundw
        case rel => exact ⟨k + 1, by go_num, by omega, Lib.hid (by rw [hf.out, facR_miss HH.out (beq_sw h)]), hB.alloc (by have := hB.size; omega) _⟩
        case measure => simp [intOf]; omega
    · have hkn := Lib.hid (show k = 9 by omega)
      go_wp2_with fail
      go_ret
      exact ⟨ret_int (by rw [hf.out, hkn.out]; rfl), hB⟩
end Go.Proofs.YtdcceaafiammfaaDoor

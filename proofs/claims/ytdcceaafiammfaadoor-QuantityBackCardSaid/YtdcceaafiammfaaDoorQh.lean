import Derived.Test.YtdcceaafiammfaaDoorProg
import Derived.Test.YtdcceaafiammfaaDoorQg
import Derived.Laws.IdiomStrings
namespace Go.Proofs.YtdcceaafiammfaaDoor
open Go.RowKit
set_option linter.unusedVariables false
set_option linter.unusedSimpArgs false
def digB (z : Int) : UInt8 := UInt8.ofNat (48 + (z % 10).toNat)
theorem digB_nat (z : Int) : ((digB z).toNat : Int) = 48 + z % 10 := by
  unfold digB; rw [UInt8.toNat_ofNat']; omega
theorem itoa_small {z : Int} (h0 : 0 ≤ z) (h : z < 10) : Lib.itoa z = [digB z] := by
  unfold Lib.itoa digB
  rw [if_neg (by omega), Lib.decDigits, dif_pos (by omega), show (z % 10).toNat = z.toNat by omega]
theorem itoa_step {z : Int} (h : 10 ≤ z) : Lib.itoa z = Lib.itoa (z / 10) ++ [digB z] := by
  unfold Lib.itoa digB
  rw [if_neg (by omega), if_neg (by omega), Lib.decDigits, dif_neg (by omega), show (z / 10).toNat = z.toNat / 10 by omega, show (z % 10).toNat = z.toNat % 10 by omega]
set_option maxHeartbeats 4000000 in
set_option maxRecDepth 100000 in
theorem rfigures_step (z : Int) (w : World) (h0 : 0 ≤ z) (h1 : z ≤ 9223372036854775807)
    (ih : ∀ w, 10 ≤ z → Calls Tryd.prog 14 #[.int .i64 (z / 10)] w fun e w' => e = .returned (.string ⟨(Lib.itoa (z / 10)).toArray⟩) ∧ Below w.heap.size w w') :
    Calls Tryd.prog 14 #[.int .i64 z] w fun e w' => e = .returned (.string ⟨(Lib.itoa z).toArray⟩) ∧ Below w.heap.size w w' := by
  have hB := Below.refl w.heap.size w
  have hback := run_convert_bytes_back (P := Tryd.prog) (w.alloc (.cells #[.int .u8 (48 + z % 10)] 5)) 44 9 5 ⟨w.heap.size, 0, none⟩ 1 [digB z] Tryd.underlying44 Tryd.underlying5 Tryd.underlying9 (fun j hj => by
    match j, hj with
    | 0, _ => rw [show ((⟨w.heap.size, 0, none⟩ : Addr).add 0) = ⟨w.heap.size, 0, none⟩ from rfl, blk_cell (blk_new w _) 0]; simp [digB_nat])
  rw [show [digB z].length = 1 from rfl] at hback
  have hm0 : 0 ≤ z % 10 := by omega
  have hm1 : z % 10 ≤ 9 := by omega
  have IH := Lib.hid ih
  clear ih
  by_cases hz : 10 ≤ z
  · have HT := Lib.hid (itoa_step hz)
    obtain ⟨D, hD⟩ : ∃ D : ByteArray, (⟨(Lib.itoa (z / 10)).toArray⟩ : ByteArray) = D := ⟨_, rfl⟩
    have hDs : D.size ≤ 19 := by rw [← hD]; exact itoa_len _ (by omega) (by omega)
    have HD := Lib.hid hD
    clear hD
    obtain ⟨E, hE⟩ : ∃ E : ByteArray, (⟨[digB z].toArray⟩ : ByteArray) = E := ⟨_, rfl⟩
    have hEs : E.size = 1 := by rw [← hE]; rfl
    rw [hE] at hback
    have HE := Lib.hid hE
    clear hE
    go_enter Tryd.func14, Tryd.ntmps14
    go_wp2_with (go_at_call 14; refine (IH.out _ hz).mono ?_; rintro e w' ⟨rfl, hb⟩; rw [HD.out]; have hB := bl_next (hB.alloc (Nat.le_refl _) (.cells #[.int .u8 (48 + z % 10)] 5)) hb; clear hb)
    go_ret
    exact ⟨ret_str (by rw [HT.out, ← HD.out, ← HE.out]; apply ByteArray.ext; simp), hB⟩
  · have HT := Lib.hid (itoa_small h0 (by omega))
    go_enter Tryd.func14, Tryd.ntmps14
    go_wp2_with fail
    go_ret
    exact ⟨ret_str (by rw [HT.out]), hB.alloc (Nat.le_refl _) _⟩
theorem rfigures_calls (z : Int) (w : World) (h0 : 0 ≤ z) (h1 : z ≤ 9223372036854775807) :
    Calls Tryd.prog 14 #[.int .i64 z] w fun e w' => e = .returned (.string ⟨(Lib.itoa z).toArray⟩) ∧ Below w.heap.size w w' := by
  obtain ⟨N, rfl⟩ : ∃ N : Nat, z = N := ⟨z.toNat, by omega⟩
  induction N using Nat.strongRecOn generalizing w with
  | ind N ih =>
    refine rfigures_step N w h0 h1 (fun w' h => ?_)
    have := ih (N / 10) (by omega) w' (by omega) (by omega)
    simpa using this
end Go.Proofs.YtdcceaafiammfaaDoor

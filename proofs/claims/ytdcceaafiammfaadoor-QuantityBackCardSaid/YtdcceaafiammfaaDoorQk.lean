import Derived.Test.YtdcceaafiammfaaDoorProg
import Derived.Test.YtdcceaafiammfaaDoorQj
namespace Go.Proofs.YtdcceaafiammfaaDoor
open Go.RowKit
set_option linter.unusedVariables false
set_option linter.unusedSimpArgs false
theorem wf_i64' {n : Int} (h : (Lit.int .i64 n).wf = true) : -9223372036854775808 ≤ n ∧ n ≤ 9223372036854775807 := by
  simp [Lit.wf, IntKind.has, IntKind.min, IntKind.max, IntKind.signed, IntKind.bits] at h; omega
theorem wf_u32' {n : Int} (h : (Lit.int .u32 n).wf = true) : 0 ≤ n ∧ n ≤ 4294967295 := by
  simp [Lit.wf, IntKind.has, IntKind.min, IntKind.max, IntKind.signed, IntKind.bits] at h; omega
theorem parse_parts (s : ByteArray) : ∃ a e, Hid (parseV s = .tuple #[.int .i64 a, .int .i64 e]) := by
  unfold parseV
  split
  · exact ⟨_, _, rfl⟩
  · split <;> exact ⟨_, _, rfl⟩
set_option maxHeartbeats 4000000 in
set_option maxRecDepth 100000 in
theorem qtells_law (s : ByteArray) (n : Int) (w : World) (q : QV w) (h1 : -9223372036854775808 ≤ n) (h2 : n ≤ 9223372036854775807) :
    Calls Tryd.prog 3 #[.string s, .int .i64 n] w fun e w' => e = .returned (.bool true) ∧ Below w.heap.size w w' := by
  have hB := Below.refl w.heap.size w
  have Q := Lib.hid q
  have H1 := Lib.hid h1; have H2 := Lib.hid h2
  clear q h1 h2
  by_cases hs : s.size ≤ 200
  · obtain ⟨a, b, PV⟩ := parse_parts s
    have hs1 := Lib.hid (show s.size ≤ 1000 by omega)
    obtain ⟨F, hF⟩ : ∃ F, facV s.toList = F := ⟨_, rfl⟩
    have HF := Lib.hid hF
    obtain ⟨T, hT⟩ : ∃ T, textV n = T := ⟨_, rfl⟩
    have HT := Lib.hid hT
    clear hF hT
    have hsI : (s.size : Int) ≤ 200 := by omega
    go_enter Tryd.func3, Tryd.ntmps3
    go_wp2_with (first | (go_at_call 7; refine (qparse_calls _ _ (Q.out.below hB) hs1.out).mono ?_; rintro e w' ⟨rfl, hb⟩; rw [PV.out]; have hB := bl_next hB hb; clear hb) | (go_at_call 8; refine (rparse_calls _ _ hs1.out).mono ?_; rintro e w' ⟨rfl, hb⟩; rw [PV.out]; have hB := bl_next hB hb; clear hb) | (go_at_call 9; refine (qtext_calls _ _ (Q.out.below hB) H1.out H2.out).mono ?_; rintro e w' ⟨rfl, hb⟩; rw [HT.out]; have hB := bl_next hB hb; clear hb) | (go_at_call 10; refine (rtext_calls _ _ H1.out H2.out).mono ?_; rintro e w' ⟨rfl, hb⟩; rw [HT.out]; have hB := bl_next hB hb; clear hb) | (go_at_call 11; refine (qfactor_calls _ _ (Q.out.below hB)).mono ?_; rintro e w' ⟨rfl, hb⟩; rw [HF.out]; have hB := bl_next hB hb; clear hb) | (go_at_call 12; refine (rfactor_calls _ _).mono ?_; rintro e w' ⟨rfl, hb⟩; rw [HF.out]; have hB := bl_next hB hb; clear hb) | (go_at_call 6; refine (alive3_calls _ (Q.out.below hB)).mono ?_; rintro e w' ⟨rfl, hb⟩; have hB := bl_next hB hb; clear hb))
    go_ret
    exact ⟨rfl, hB⟩
  · have hsI : (200 : Int) < s.size := by omega
    go_enter Tryd.func3, Tryd.ntmps3
    go_wp2_with (go_at_call 6; refine (alive3_calls _ (Q.out.below hB)).mono ?_; rintro e w' ⟨rfl, hb⟩; have hB := bl_next hB hb; clear hb)
    go_ret
    exact ⟨rfl, hB⟩
theorem quantityTellsWalk {W : World} (q : QV W) (s : ByteArray) (v : Value) (hs : kStr.K W anyB s [v]) (n : Int) (v' : Value) (hn : (kInt .i64).K W anyB n [v']) :
    Calls Tryd.prog 3 #[v, v'] W fun e w' => e = .returned (.bool true) ∧ Below W.heap.size W w' := by
  have hs : [v] = [.string s] := hs
  obtain ⟨hn, wn⟩ := hn
  obtain ⟨rfl⟩ : v = .string s := by simpa using hs
  obtain ⟨rfl⟩ : v' = .int .i64 n := by simpa using hn
  have a := wf_i64' wn
  exact qtells_law s n W q a.1 a.2
end Go.Proofs.YtdcceaafiammfaaDoor

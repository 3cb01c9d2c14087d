import Derived.Test.YtdcceaafiammfaaProg
import Derived.Test.YtdcceaafiammfaaKinds
import Derived.Test.YtdcceaafiammfaaLawf
namespace Go.Proofs.Ytdcceaafiammfaa
open Go.RowKit
theorem wf_i64' {n : Int} (h : (Lit.int .i64 n).wf = true) : -9223372036854775808 ≤ n ∧ n ≤ 9223372036854775807 := by
  simp [Lit.wf, IntKind.has, IntKind.min, IntKind.max, IntKind.signed, IntKind.bits] at h; omega
theorem wf_u64' {n : Int} (h : (Lit.int .u64 n).wf = true) : 0 ≤ n ∧ n ≤ 18446744073709551615 := by
  simp [Lit.wf, IntKind.has, IntKind.min, IntKind.max, IntKind.signed, IntKind.bits] at h; omega
theorem wf_u8' {n : Int} (h : (Lit.int .u8 n).wf = true) : 0 ≤ n ∧ n ≤ 255 := by
  simp [Lit.wf, IntKind.has, IntKind.min, IntKind.max, IntKind.signed, IntKind.bits] at h; omega
theorem kWide_cs {w : World} {ok : Nat → Prop} {x : Wide} {cs : List Value} (h : kWide.K w ok x cs) : cs = [.int .i64 x.h, .int .u64 x.l] ∧ WOk x.h x.l := by
  obtain ⟨c0, c1, rfl, h0, h1⟩ := h
  have a := wf_i64' h0.2
  have b := wf_u64' h1.2
  rw [h0.1, h1.1]
  exact ⟨rfl, ⟨a.1, a.2, b.1, b.2⟩⟩
theorem wideBackWalk {W : World} (y : Wide × Wide) (c : List Value) (h : (kPair kWide kWide).K W anyB y c) (z : Int × Int) (d : List Value) (hz : (kPair (kInt .u8) (kInt .u8)).K W anyB z d) :
    Calls Try.prog 10 #[.agg c.toArray, .agg d.toArray] W fun e w' => e = .returned (.bool true) ∧ Below W.heap.size W w' := by
  obtain ⟨c0, c1, rfl, h0, h1⟩ := h
  obtain ⟨d0, d1, rfl, e0, e1⟩ := hz
  obtain ⟨rfl, k0⟩ := kWide_cs h0
  obtain ⟨rfl, k1⟩ := kWide_cs h1
  obtain ⟨rfl, p0⟩ := e0
  obtain ⟨rfl, p1⟩ := e1
  exact wback_law _ _ _ _ _ _ W k0 k1 (wf_u8' p0) (wf_u8' p1)
end Go.Proofs.Ytdcceaafiammfaa

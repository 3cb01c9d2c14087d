import Derived.Test.YthaipgbjnigkhaaMke
namespace Go.Proofs.Ythaipgbjnigkhaa
open Go.RowKit Go.Shelf Go.Maps
set_option linter.unusedVariables false
set_option linter.unusedSimpArgs false
set_option linter.unusedSectionVars false
theorem mnext_nil (w : World) (t : Value) :
    Calls Try.prog 51 #[.pointer none, t] w fun e w' => e = .returned (.tuple #[.string ⟨#[]⟩, .bool false]) ∧ Below w.heap.size w w' := by
  have hB := Below.refl w.heap.size w
  go_enter Try.func51, Try.ntmps51
  go_wp2_with fail
  refine (mall_nil _).mono ?_
  rintro e w1 ⟨rfl, hb⟩
  have hB := bl_next hB hb
  go_wp2_with fail
  go_loopw [6, 7, 14] (fun s6 s7 i wr => (s6 = .string ⟨#[]⟩ ∧ s7 = .int .i64 0 ∧ i = .int .i64 0) ∧ Below w.heap.size w wr) (fun _ _ _ _ => 0)
  case atStart => exact ⟨⟨rfl, rfl, rfl⟩, hB⟩
  case round =>
    clear hB
    obtain ⟨⟨rfl, rfl, rfl⟩, hB⟩ := hrel
    go_wp2_with fail
    refine bodyPost_ret (v := .tuple #[.string ⟨#[]⟩, .bool false]) (by simp [results, Try.results51, go_sem]) rfl ⟨rfl, hB⟩
end Go.Proofs.Ythaipgbjnigkhaa

import Derived.Test.YtdcceaafiammfaaProg
import Derived.Test.YtdcceaafiammfaaLawi
import Derived.Test.YtdcceaafiammfaaLawg
namespace Go.Proofs.Ytdcceaafiammfaa
open Go.RowKit
def th3w (x y z : Int) (i : Nat) : Int := if i = 0 then x else if i = 1 then y else z
theorem wideOrderWalk {W : World} (y : Wide × Wide × Wide) (c : List Value) (h : (kPair kWide (kPair kWide kWide)).K W anyB y c) (n : Int) (v : Value) (hn : (kInt .i64).K W anyB n [v]) (m : Int) (v' : Value) (hm : (kInt .i64).K W anyB m [v']) :
    Calls Try.prog 11 #[.agg c.toArray, v, v'] W fun e w' => e = .returned (.bool true) ∧ Below W.heap.size W w' := by
  obtain ⟨c0, c1, rfl, h0, c2, c3, rfl, h2, h3⟩ := h
  obtain ⟨hn, wn⟩ := hn
  obtain ⟨hm, wm⟩ := hm
  obtain ⟨rfl⟩ : v = .int .i64 n := by simpa using hn
  obtain ⟨rfl⟩ : v' = .int .i64 m := by simpa using hm
  obtain ⟨rfl, k0⟩ := kWide_cs h0
  obtain ⟨rfl, k1⟩ := kWide_cs h2
  obtain ⟨rfl, k2⟩ := kWide_cs h3
  have a := wf_i64' wn; have b := wf_i64' wm
  exact worder_law (th3w y.1.h y.2.1.h y.2.2.h) (th3w y.1.l y.2.1.l y.2.2.l) n m W (fun i hi => match i, hi with | 0, _ => k0 | 1, _ => k1 | 2, _ => k2) a.1 a.2 b.1 b.2
end Go.Proofs.Ytdcceaafiammfaa

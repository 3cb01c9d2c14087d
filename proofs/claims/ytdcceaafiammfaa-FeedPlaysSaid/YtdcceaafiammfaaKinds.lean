import Derived.Test.YtdcceaafiammfaaProg
import Derived.Test.YtdcceaafiammfaaKd
namespace Go.Proofs.Ytdcceaafiammfaa
open Go.RowKit
structure Key where
  k : ByteArray
  s : ByteArray
  n : ByteArray
def kKey : Kd Key := kIso (kPair kStr (kPair kStr kStr)) fun x => (x.k, x.s, x.n)
structure Wide where
  h : Int
  l : Int
def kWide : Kd Wide := kIso (kPair (kInt .i64) (kInt .u64)) fun x => (x.h, x.l)
theorem opStr : Opens Try.prog 9 kStr := opens_str Try.underlying9 (by kernel_rfl)
theorem opInt : Opens Try.prog 3 (kInt .i64) := opens_int Try.underlying3 (by kernel_rfl)
theorem opI64 : Opens Try.prog 2 (kInt .i64) := opens_int Try.underlying2 (by kernel_rfl)
theorem opU8 : Opens Try.prog 5 (kInt .u8) := opens_int Try.underlying5 (by kernel_rfl)
theorem opU64 : Opens Try.prog 55 (kInt .u64) := opens_int Try.underlying55 (by kernel_rfl)
theorem opWide : Opens Try.prog 57 kWide := by
  refine opens_iso (fun x => ⟨x.1, x.2⟩) (fun _ => rfl) ?_
  refine opens_struct Try.underlying57 (by kernel_rfl) ?_
  exact (by refine opensF_cons ?_ ?_ ?_; rfl; exact opI64; refine opensF_one ?_ ?_; rfl; exact opU64)
theorem opWide2 : Opens Try.prog 58 (kPair kWide kWide) := opens_arr2 Try.underlying58 (by kernel_rfl) opWide
theorem opWide3 : Opens Try.prog 70 (kPair kWide (kPair kWide kWide)) := opens_arr3 Try.underlying70 (by kernel_rfl) opWide
theorem opU8x2 : Opens Try.prog 68 (kPair (kInt .u8) (kInt .u8)) := opens_arr2 Try.underlying68 (by kernel_rfl) opU8
theorem opKey : Opens Try.prog 35 kKey := by
  refine opens_iso (fun x => ⟨x.1, x.2.1, x.2.2⟩) (fun _ => rfl) ?_
  refine opens_struct Try.underlying35 (by kernel_rfl) ?_
  exact (by refine opensF_cons ?_ ?_ ?_; rfl; exact opStr; refine opensF_cons ?_ ?_ ?_; rfl; exact opStr; refine opensF_one ?_ ?_; rfl; exact opStr)
theorem opKey2 : Opens Try.prog 44 (kPair kKey kKey) := opens_arr2 Try.underlying44 (by kernel_rfl) opKey
theorem opKey3 : Opens Try.prog 53 (kPair kKey (kPair kKey kKey)) := opens_arr3 Try.underlying53 (by kernel_rfl) opKey
theorem kKey_cs {w : World} {ok : Nat → Prop} {x : Key} {cs : List Value} (h : kKey.K w ok x cs) : cs = [.string x.k, .string x.s, .string x.n] := by
  obtain ⟨c0, c1, rfl, h0, c2, c3, rfl, h2, h3⟩ := h
  rw [show c0 = _ from h0, show c2 = _ from h2, show c3 = _ from h3]; rfl
end Go.Proofs.Ytdcceaafiammfaa

import Derived.Test.YthhfcambdmdgfaaProg
import Derived.Test.YthhfcambdmdgfaaKd
namespace Go.Proofs.Ythhfcambdmdgfaa
open Go.RowKit
theorem opStr : Opens Try.prog 9 kStr := opens_str Try.underlying9 (by kernel_rfl)
theorem opInt : Opens Try.prog 3 (kInt .i64) := opens_int Try.underlying3 (by kernel_rfl)
theorem opU8 : Opens Try.prog 5 (kInt .u8) := opens_int Try.underlying5 (by kernel_rfl)
end Go.Proofs.Ythhfcambdmdgfaa

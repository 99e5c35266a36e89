/- HostKeeps, all. -/
import Derived.Test.YtbnkjbdbcckcmaaV5
import Derived.Test.YtbnkjbdbcckcmaaLKeepC
import Derived.Test.YtbnkjbdbcckcmaaLKeepN
namespace Go.Proofs.Ytbnkjbdbcckcmaa
set_option linter.unusedSimpArgs false
set_option linter.unusedVariables false
open Go Go.Abs
theorem hostKeeps_ok (rs : List Int) (x : Int) (hr : u64s rs) (hl : rs.length ≤ 1048576) (hx : 0 ≤ x ∧ x < 2 ^ 64) : AC Try.prog 5 [.view rs.length 1 (nums .u64 rs), .int .u64 x] (fun r m => r = .bool true ∧ m = []) := by
  cases rs with
  | nil => exact hostKeeps_nil x hx
  | cons r0 rt => exact hostKeeps_cons r0 rt x hr hl hx
end Go.Proofs.Ytbnkjbdbcckcmaa

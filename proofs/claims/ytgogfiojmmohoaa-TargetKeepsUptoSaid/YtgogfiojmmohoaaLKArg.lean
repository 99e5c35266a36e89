/- TargetKeeps and its arguments, together. -/
import Derived.Test.YtgogfiojmmohoaaV5
import Derived.Test.YtgogfiojmmohoaaLKeeps
import Derived.Test.YtgogfiojmmohoaaArgs
namespace Go.Proofs.Ytgogfiojmmohoaa
set_option linter.unusedSimpArgs false
set_option linter.unusedVariables false
open Go Go.Abs
theorem targetKeeps_arg (x : shPg.T) (hg : shPg.good x) (hb : shPg.bulk x ≤ 1048576) (f : Int) : AC Try.prog 5 [Sh.val shPg x, .int .i64 f] (fun r m => r = .bool true ∧ m = []) := by
  rw [val_pg]
  exact targetKeeps_ok (toPg x) (okP_arg x hg hb) f
end Go.Proofs.Ytgogfiojmmohoaa

/- TargetRefuses and its arguments, together. -/
import Derived.Test.YtgogfiojmmohoaaV5
import Derived.Test.YtgogfiojmmohoaaLROk
import Derived.Test.YtgogfiojmmohoaaArgs
namespace Go.Proofs.Ytgogfiojmmohoaa
set_option linter.unusedSimpArgs false
set_option linter.unusedVariables false
open Go Go.Abs
theorem targetRefuses_arg (x : shPg.T) (hg : shPg.good x) (hb : shPg.bulk x ≤ 1048576) (f a : Int) : AC Try.prog 4 [Sh.val shPg x, .int .i64 f, .int .i64 a] (fun r m => r = .bool true ∧ m = []) := by
  rw [val_pg]
  refine targetRefuses_ok (toPg x) (okP_arg x hg hb) ?_ f a
  obtain ⟨sg, fs⟩ := x
  have hb' : Sh.bulk (.sl shSg) sg + Sh.bulk (.sl shFn) fs ≤ 1048576 := hb
  have b1 := bulk_sl (s := shSg) sg
  show List.length (α := Sg) sg + 1 ≤ _
  omega
end Go.Proofs.Ytgogfiojmmohoaa

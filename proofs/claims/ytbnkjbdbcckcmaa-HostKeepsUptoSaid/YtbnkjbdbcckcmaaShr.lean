/- Shifts. -/
import Derived.Test.YtbnkjbdbcckcmaaV5
import Derived.Test.YtbnkjbdbcckcmaaPre
namespace Go.Proofs.Ytbnkjbdbcckcmaa
set_option linter.unusedSimpArgs false
set_option linter.unusedVariables false
open Go Go.Abs
theorem shr8x {x : Int} {k : Nat} (h0 : 0 ≤ x) (hk : k < 8) : x.fdiv (2 ^ min (8 * (k : Int)).toNat IntKind.u64.bits) = x / 2 ^ (8 * k) := by
  have e : min (8 * (k : Int)).toNat IntKind.u64.bits = 8 * k := by rw [Nat.min_eq_left (by show _ ≤ 64; omega)]; omega
  rw [e, fdiv_pow _ _ h0]
theorem u8mod (x : Int) : IntKind.u8.wrap x = x % 256 := wrap_unsigned (k := .u8) rfl x
end Go.Proofs.Ytbnkjbdbcckcmaa

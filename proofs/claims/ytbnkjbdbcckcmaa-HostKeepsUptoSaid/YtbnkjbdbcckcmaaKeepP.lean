/- What the calls of HostKeeps come to, in plain. -/
import Derived.Test.YtbnkjbdbcckcmaaV5
import Derived.Test.YtbnkjbdbcckcmaaHRep
namespace Go.Proofs.Ytbnkjbdbcckcmaa
set_option linter.unusedSimpArgs false
set_option linter.unusedVariables false
open Go Go.Abs
theorem callS_one {R : List Int} {L : List Ev} (hl : L.length < 1024) {x : Int} (hx : 0 ≤ x ∧ x < 2 ^ 64) (i : Int) : callS ⟨R, L, 0⟩ i [] [] [126] [126] [x] = ([R.getD 0 0], 0, ⟨R.drop 1, L ++ [(i, [x])], 0⟩) := by
  have hp := rep_put (xs := [x]) (by intro y hy; rw [List.mem_singleton.1 hy]; exact hx)
  have hp : putL [126] (takeL [126] [x]) = [x] := hp
  unfold callS
  rw [if_neg (fun h => h ⟨rfl, rfl, rfl⟩), if_neg (by simp only; omega), if_neg (by decide), hp]
  have := give_rep 1 ⟨R, L ++ [(i, [x])], 0⟩
  have e : List.replicate 1 (126 : Int) = [126] := rfl
  rw [e] at this
  rw [this]
  rfl
end Go.Proofs.Ytbnkjbdbcckcmaa

/-
  No cell of these rows narrows 'for every input' (looked for: loops, veiled, ifaces, maps, wideKeys, modest, calm, conditions, laid).
  DERIVED. THE GIVEN ROWS OF THIS SEAT. 7 by the template 'for every input the law returns true; each argument reads behind the call as it read before'; 0 by the template 'total and deterministic' (their statements: YtopdealfmajbhaaTotals.lean).
  GIVEN WITH THE SEED: the statements are not yours to turn. If you find one false, say at which input.
  Laid BY PROGRAM, IN A SANDBOX (cutbox-rows.mjs): the forced cells as the released guide's own fill.sh prints them over the translation 59d9afd1e30511db… (all of the seat's roots in one cut). By AI agents, Wed Nov 11 2026. No macro, syntax, notation, axiom, sorry.
-/
import Derived.Test.YtopdealfmajbhaaChecked
import GoSem.Claim
import GoSem.ClaimJoined
import GoSem.ClaimMapViews
import Derived.JoinedTies
import Derived.KernelRfl
namespace Go.Proofs.Ytopdealfmajbhaa
/- THE CELL 'sum', in the pinned program and in every row, IS THE sha256 OF THE DUMP (.gsa) THAT YtopdealfmajbhaaProg.lean LOADS. Nothing in Lean hashes anything: it is a label: what it is worth is what the hold of that sum in a sandbox is worth. -/
noncomputable def Try.pinned : Pinned := { name := "ytopdealfmajbhaa", sum := "59d9afd1e30511dba6b63901fbe120760ca438c3f140aa82c5e3c13e4520cf8d", checked := Try.checked }
namespace Rows
def none {H : Type} : Left H := { results := [], args := [] }

/-- 'plaitlaw02.PairOf': WHATEVER THE INPUT: true; the input reads as it did. -/
def pairOfSpec : ChangeSpec := { name := "pairOf", fn := fun _ => fun
  | [d1, d2] => { results := [.lit (.bool true)], args := [d1, d2] }
  | _ => none }
def pairOfRow : OpenClaim := { program := "ytopdealfmajbhaa", sum := "59d9afd1e30511dba6b63901fbe120760ca438c3f140aa82c5e3c13e4520cf8d", func := "plait/plaitlaw02.PairOf", spec := "pairOf", apart := false }
def PairOfSaid : Prop := pairOfRow.holds Try.pinned (OpenSpec.ofChange pairOfSpec)

/-- ITS FALSE NEIGHBOUR: 'it returns false'. Refute it at one input. -/
def pairOfWrong : ChangeSpec := { name := "pairOf", fn := fun _ => fun
  | [d1, d2] => { results := [.lit (.bool false)], args := [d1, d2] }
  | _ => none }
def PairOfWrongFalsely : Prop := pairOfRow.holds Try.pinned (OpenSpec.ofChange pairOfWrong)

/-- 'plaitlaw02.PairSets': WHATEVER THE INPUT: true; the input reads as it did. -/
def pairSetsSpec : ChangeSpec := { name := "pairSets", fn := fun _ => fun
  | [d] => { results := [.lit (.bool true)], args := [d] }
  | _ => none }
def pairSetsRow : OpenClaim := { program := "ytopdealfmajbhaa", sum := "59d9afd1e30511dba6b63901fbe120760ca438c3f140aa82c5e3c13e4520cf8d", func := "plait/plaitlaw02.PairSets", spec := "pairSets", apart := false }
def PairSetsSaid : Prop := pairSetsRow.holds Try.pinned (OpenSpec.ofChange pairSetsSpec)

/-- ITS FALSE NEIGHBOUR: 'it returns false'. Refute it at one input. -/
def pairSetsWrong : ChangeSpec := { name := "pairSets", fn := fun _ => fun
  | [d] => { results := [.lit (.bool false)], args := [d] }
  | _ => none }
def PairSetsWrongFalsely : Prop := pairSetsRow.holds Try.pinned (OpenSpec.ofChange pairSetsWrong)

/-- 'plaitlaw02.PairHalves': WHATEVER THE INPUT: true; the input reads as it did. -/
def pairHalvesSpec : ChangeSpec := { name := "pairHalves", fn := fun _ => fun
  | [d1, d2, d3] => { results := [.lit (.bool true)], args := [d1, d2, d3] }
  | _ => none }
def pairHalvesRow : OpenClaim := { program := "ytopdealfmajbhaa", sum := "59d9afd1e30511dba6b63901fbe120760ca438c3f140aa82c5e3c13e4520cf8d", func := "plait/plaitlaw02.PairHalves", spec := "pairHalves", apart := false }
def PairHalvesSaid : Prop := pairHalvesRow.holds Try.pinned (OpenSpec.ofChange pairHalvesSpec)

/-- ITS FALSE NEIGHBOUR: 'it returns false'. Refute it at one input. -/
def pairHalvesWrong : ChangeSpec := { name := "pairHalves", fn := fun _ => fun
  | [d1, d2, d3] => { results := [.lit (.bool false)], args := [d1, d2, d3] }
  | _ => none }
def PairHalvesWrongFalsely : Prop := pairHalvesRow.holds Try.pinned (OpenSpec.ofChange pairHalvesWrong)

/-- 'plaitlaw02.PairLanes': WHATEVER THE INPUT: true; the input reads as it did. -/
def pairLanesSpec : ChangeSpec := { name := "pairLanes", fn := fun _ => fun
  | [d] => { results := [.lit (.bool true)], args := [d] }
  | _ => none }
def pairLanesRow : OpenClaim := { program := "ytopdealfmajbhaa", sum := "59d9afd1e30511dba6b63901fbe120760ca438c3f140aa82c5e3c13e4520cf8d", func := "plait/plaitlaw02.PairLanes", spec := "pairLanes", apart := false }
def PairLanesSaid : Prop := pairLanesRow.holds Try.pinned (OpenSpec.ofChange pairLanesSpec)

/-- ITS FALSE NEIGHBOUR: 'it returns false'. Refute it at one input. -/
def pairLanesWrong : ChangeSpec := { name := "pairLanes", fn := fun _ => fun
  | [d] => { results := [.lit (.bool false)], args := [d] }
  | _ => none }
def PairLanesWrongFalsely : Prop := pairLanesRow.holds Try.pinned (OpenSpec.ofChange pairLanesWrong)

/-- 'plaitlaw02.PairImages': WHATEVER THE INPUT: true; the input reads as it did. -/
def pairImagesSpec : ChangeSpec := { name := "pairImages", fn := fun _ => fun
  | [d1, d2, d3] => { results := [.lit (.bool true)], args := [d1, d2, d3] }
  | _ => none }
def pairImagesRow : OpenClaim := { program := "ytopdealfmajbhaa", sum := "59d9afd1e30511dba6b63901fbe120760ca438c3f140aa82c5e3c13e4520cf8d", func := "plait/plaitlaw02.PairImages", spec := "pairImages", apart := false }
def PairImagesSaid : Prop := pairImagesRow.holds Try.pinned (OpenSpec.ofChange pairImagesSpec)

/-- ITS FALSE NEIGHBOUR: 'it returns false'. Refute it at one input. -/
def pairImagesWrong : ChangeSpec := { name := "pairImages", fn := fun _ => fun
  | [d1, d2, d3] => { results := [.lit (.bool false)], args := [d1, d2, d3] }
  | _ => none }
def PairImagesWrongFalsely : Prop := pairImagesRow.holds Try.pinned (OpenSpec.ofChange pairImagesWrong)

/-- 'plaitlaw02.PairBack': WHATEVER THE INPUT: true; the input reads as it did. -/
def pairBackSpec : ChangeSpec := { name := "pairBack", fn := fun _ => fun
  | [d1, d2] => { results := [.lit (.bool true)], args := [d1, d2] }
  | _ => none }
def pairBackRow : OpenClaim := { program := "ytopdealfmajbhaa", sum := "59d9afd1e30511dba6b63901fbe120760ca438c3f140aa82c5e3c13e4520cf8d", func := "plait/plaitlaw02.PairBack", spec := "pairBack", apart := false }
def PairBackSaid : Prop := pairBackRow.holds Try.pinned (OpenSpec.ofChange pairBackSpec)

/-- ITS FALSE NEIGHBOUR: 'it returns false'. Refute it at one input. -/
def pairBackWrong : ChangeSpec := { name := "pairBack", fn := fun _ => fun
  | [d1, d2] => { results := [.lit (.bool false)], args := [d1, d2] }
  | _ => none }
def PairBackWrongFalsely : Prop := pairBackRow.holds Try.pinned (OpenSpec.ofChange pairBackWrong)

/-- 'plaitlaw02.PairKeeps': WHATEVER THE INPUT: true; the input reads as it did. -/
def pairKeepsSpec : ChangeSpec := { name := "pairKeeps", fn := fun _ => fun
  | [d1, d2] => { results := [.lit (.bool true)], args := [d1, d2] }
  | _ => none }
def pairKeepsRow : OpenClaim := { program := "ytopdealfmajbhaa", sum := "59d9afd1e30511dba6b63901fbe120760ca438c3f140aa82c5e3c13e4520cf8d", func := "plait/plaitlaw02.PairKeeps", spec := "pairKeeps", apart := false }
def PairKeepsSaid : Prop := pairKeepsRow.holds Try.pinned (OpenSpec.ofChange pairKeepsSpec)

/-- ITS FALSE NEIGHBOUR: 'it returns false'. Refute it at one input. -/
def pairKeepsWrong : ChangeSpec := { name := "pairKeeps", fn := fun _ => fun
  | [d1, d2] => { results := [.lit (.bool false)], args := [d1, d2] }
  | _ => none }
def PairKeepsWrongFalsely : Prop := pairKeepsRow.holds Try.pinned (OpenSpec.ofChange pairKeepsWrong)

/- THE SECOND FORM. 'bulk': how many values and letters a reading holds, each counted each time it is reached (what is shared counts as often as it is met; a slice's spare places count too). A statement '..UptoSaid' is the law's where the arguments, and the package variables that the reading takes, are together of bulk at most 1048576: NARROWER than '..Said'. Prove '..Said' where nothing that the law and all that it calls make is longer than what came in: it says more and counts as full. Else prove '..UptoSaid'. A law counts once. -/
mutual
def uptoBulk {H : Type} : DataW H → Nat
  | .lit (.string bytes) => bytes.length + 1
  | .lit _ => 1
  | .nil => 1
  | .ptr d => uptoBulk d + 1
  | .slice elems spare => uptoBulkAll elems + uptoBulkAll spare + 1
  | .agg parts => uptoBulkAll parts + 1
  | .iface _ d => uptoBulk d + 1
  | .map entries => uptoBulkEntries entries + 1
  | .held _ => 1
def uptoBulkAll {H : Type} : List (DataW H) → Nat
  | [] => 0
  | d :: r => uptoBulk d + uptoBulkAll r
def uptoBulkEntries {H : Type} : List (Lit × DataW H) → Nat
  | [] => 0
  | x :: r => uptoBulkEntry x + uptoBulkEntries r
def uptoBulkEntry {H : Type} : Lit × DataW H → Nat
  | (.string bytes, d) => bytes.length + uptoBulk d + 1
  | (_, d) => uptoBulk d + 1
 end
def uptoSmall : (H : Type) → List (DataW H) → Bool := fun _ ds => decide (uptoBulkAll ds ≤ 1048576)
def OpenSpec.upto (s : _root_.Go.ChangeSpec) : _root_.Go.OpenSpec := { _root_.Go.OpenSpec.ofChange s with cond := some uptoSmall }

/-- 'plaitlaw02.PairOf', WHERE WHAT IT READS IS OF BULK AT MOST 1048576: true; the input reads as it did. -/
def pairOfUptoRow : OpenClaim := { program := "ytopdealfmajbhaa", sum := "59d9afd1e30511dba6b63901fbe120760ca438c3f140aa82c5e3c13e4520cf8d", func := "plait/plaitlaw02.PairOf", spec := "pairOf", apart := false, narrowed := true }
def PairOfUptoSaid : Prop := pairOfUptoRow.holds Try.pinned (OpenSpec.upto pairOfSpec)

/-- 'plaitlaw02.PairSets', WHERE WHAT IT READS IS OF BULK AT MOST 1048576: true; the input reads as it did. -/
def pairSetsUptoRow : OpenClaim := { program := "ytopdealfmajbhaa", sum := "59d9afd1e30511dba6b63901fbe120760ca438c3f140aa82c5e3c13e4520cf8d", func := "plait/plaitlaw02.PairSets", spec := "pairSets", apart := false, narrowed := true }
def PairSetsUptoSaid : Prop := pairSetsUptoRow.holds Try.pinned (OpenSpec.upto pairSetsSpec)

/-- 'plaitlaw02.PairHalves', WHERE WHAT IT READS IS OF BULK AT MOST 1048576: true; the input reads as it did. -/
def pairHalvesUptoRow : OpenClaim := { program := "ytopdealfmajbhaa", sum := "59d9afd1e30511dba6b63901fbe120760ca438c3f140aa82c5e3c13e4520cf8d", func := "plait/plaitlaw02.PairHalves", spec := "pairHalves", apart := false, narrowed := true }
def PairHalvesUptoSaid : Prop := pairHalvesUptoRow.holds Try.pinned (OpenSpec.upto pairHalvesSpec)

/-- 'plaitlaw02.PairLanes', WHERE WHAT IT READS IS OF BULK AT MOST 1048576: true; the input reads as it did. -/
def pairLanesUptoRow : OpenClaim := { program := "ytopdealfmajbhaa", sum := "59d9afd1e30511dba6b63901fbe120760ca438c3f140aa82c5e3c13e4520cf8d", func := "plait/plaitlaw02.PairLanes", spec := "pairLanes", apart := false, narrowed := true }
def PairLanesUptoSaid : Prop := pairLanesUptoRow.holds Try.pinned (OpenSpec.upto pairLanesSpec)

/-- 'plaitlaw02.PairImages', WHERE WHAT IT READS IS OF BULK AT MOST 1048576: true; the input reads as it did. -/
def pairImagesUptoRow : OpenClaim := { program := "ytopdealfmajbhaa", sum := "59d9afd1e30511dba6b63901fbe120760ca438c3f140aa82c5e3c13e4520cf8d", func := "plait/plaitlaw02.PairImages", spec := "pairImages", apart := false, narrowed := true }
def PairImagesUptoSaid : Prop := pairImagesUptoRow.holds Try.pinned (OpenSpec.upto pairImagesSpec)

/-- 'plaitlaw02.PairBack', WHERE WHAT IT READS IS OF BULK AT MOST 1048576: true; the input reads as it did. -/
def pairBackUptoRow : OpenClaim := { program := "ytopdealfmajbhaa", sum := "59d9afd1e30511dba6b63901fbe120760ca438c3f140aa82c5e3c13e4520cf8d", func := "plait/plaitlaw02.PairBack", spec := "pairBack", apart := false, narrowed := true }
def PairBackUptoSaid : Prop := pairBackUptoRow.holds Try.pinned (OpenSpec.upto pairBackSpec)

/-- 'plaitlaw02.PairKeeps', WHERE WHAT IT READS IS OF BULK AT MOST 1048576: true; the input reads as it did. -/
def pairKeepsUptoRow : OpenClaim := { program := "ytopdealfmajbhaa", sum := "59d9afd1e30511dba6b63901fbe120760ca438c3f140aa82c5e3c13e4520cf8d", func := "plait/plaitlaw02.PairKeeps", spec := "pairKeeps", apart := false, narrowed := true }
def PairKeepsUptoSaid : Prop := pairKeepsUptoRow.holds Try.pinned (OpenSpec.upto pairKeepsSpec)

end Rows
end Go.Proofs.Ytopdealfmajbhaa

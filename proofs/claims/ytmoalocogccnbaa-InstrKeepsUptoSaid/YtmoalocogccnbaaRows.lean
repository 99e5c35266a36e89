/-
  No cell of these rows narrows 'for every input' (looked for: loops, veiled, ifaces, maps, wideKeys, modest, calm, conditions, laid).
  DERIVED. THE GIVEN ROWS OF THIS SEAT. 4 by the template 'for every input the law returns true; each argument reads behind the call as it read before'; 0 by the template 'total and deterministic' (their statements: YtmoalocogccnbaaTotals.lean).
  GIVEN WITH THE SEED: the statements are not yours to turn. If you find one false, say at which input.
  Laid BY PROGRAM, IN A SANDBOX (cutbox-rows.mjs): the forced cells as the released guide's own fill.sh prints them over the translation 18cc549b473fd06c… (all of the seat's roots in one cut). By AI agents, Wed Nov 11 2026. No macro, syntax, notation, axiom, sorry.
-/
import Derived.Test.YtmoalocogccnbaaChecked
import GoSem.Claim
import GoSem.ClaimJoined
import GoSem.ClaimMapViews
import Derived.JoinedTies
import Derived.KernelRfl
namespace Go.Proofs.Ytmoalocogccnbaa
/- THE CELL 'sum', in the pinned program and in every row, IS THE sha256 OF THE DUMP (.gsa) THAT YtmoalocogccnbaaProg.lean LOADS. Nothing in Lean hashes anything: it is a label: what it is worth is what the hold of that sum in a sandbox is worth. -/
noncomputable def Try.pinned : Pinned := { name := "ytmoalocogccnbaa", sum := "18cc549b473fd06ce32518a54b789bafc6f9c06b11bc6ee4f73b7543b2bec5ea", checked := Try.checked }
namespace Rows
def none {H : Type} : Left H := { results := [], args := [] }

/-- 'plaitlaw04.InstrAll': WHATEVER THE INPUT: true; the input reads as it did. -/
def instrAllSpec : ChangeSpec := { name := "instrAll", fn := fun _ => fun
  | [d] => { results := [.lit (.bool true)], args := [d] }
  | _ => none }
def instrAllRow : OpenClaim := { program := "ytmoalocogccnbaa", sum := "18cc549b473fd06ce32518a54b789bafc6f9c06b11bc6ee4f73b7543b2bec5ea", func := "plait/plaitlaw04.InstrAll", spec := "instrAll", apart := false }
def InstrAllSaid : Prop := instrAllRow.holds Try.pinned (OpenSpec.ofChange instrAllSpec)

/-- ITS FALSE NEIGHBOUR: 'it returns false'. Refute it at one input. -/
def instrAllWrong : ChangeSpec := { name := "instrAll", fn := fun _ => fun
  | [d] => { results := [.lit (.bool false)], args := [d] }
  | _ => none }
def InstrAllWrongFalsely : Prop := instrAllRow.holds Try.pinned (OpenSpec.ofChange instrAllWrong)

/-- 'plaitlaw04.InstrApart': WHATEVER THE INPUT: true; the input reads as it did. -/
def instrApartSpec : ChangeSpec := { name := "instrApart", fn := fun _ => fun
  | [d] => { results := [.lit (.bool true)], args := [d] }
  | _ => none }
def instrApartRow : OpenClaim := { program := "ytmoalocogccnbaa", sum := "18cc549b473fd06ce32518a54b789bafc6f9c06b11bc6ee4f73b7543b2bec5ea", func := "plait/plaitlaw04.InstrApart", spec := "instrApart", apart := false }
def InstrApartSaid : Prop := instrApartRow.holds Try.pinned (OpenSpec.ofChange instrApartSpec)

/-- ITS FALSE NEIGHBOUR: 'it returns false'. Refute it at one input. -/
def instrApartWrong : ChangeSpec := { name := "instrApart", fn := fun _ => fun
  | [d] => { results := [.lit (.bool false)], args := [d] }
  | _ => none }
def InstrApartWrongFalsely : Prop := instrApartRow.holds Try.pinned (OpenSpec.ofChange instrApartWrong)

/-- 'plaitlaw04.InstrKeeps': WHATEVER THE INPUT: true; the input reads as it did. -/
def instrKeepsSpec : ChangeSpec := { name := "instrKeeps", fn := fun _ => fun
  | [d1, d2] => { results := [.lit (.bool true)], args := [d1, d2] }
  | _ => none }
def instrKeepsRow : OpenClaim := { program := "ytmoalocogccnbaa", sum := "18cc549b473fd06ce32518a54b789bafc6f9c06b11bc6ee4f73b7543b2bec5ea", func := "plait/plaitlaw04.InstrKeeps", spec := "instrKeeps", apart := false }
def InstrKeepsSaid : Prop := instrKeepsRow.holds Try.pinned (OpenSpec.ofChange instrKeepsSpec)

/-- ITS FALSE NEIGHBOUR: 'it returns false'. Refute it at one input. -/
def instrKeepsWrong : ChangeSpec := { name := "instrKeeps", fn := fun _ => fun
  | [d1, d2] => { results := [.lit (.bool false)], args := [d1, d2] }
  | _ => none }
def InstrKeepsWrongFalsely : Prop := instrKeepsRow.holds Try.pinned (OpenSpec.ofChange instrKeepsWrong)

/-- 'plaitlaw04.InstrNumbers': WHATEVER THE INPUT: true; the input reads as it did. -/
def instrNumbersSpec : ChangeSpec := { name := "instrNumbers", fn := fun _ => fun
  | [d] => { results := [.lit (.bool true)], args := [d] }
  | _ => none }
def instrNumbersRow : OpenClaim := { program := "ytmoalocogccnbaa", sum := "18cc549b473fd06ce32518a54b789bafc6f9c06b11bc6ee4f73b7543b2bec5ea", func := "plait/plaitlaw04.InstrNumbers", spec := "instrNumbers", apart := false }
def InstrNumbersSaid : Prop := instrNumbersRow.holds Try.pinned (OpenSpec.ofChange instrNumbersSpec)

/-- ITS FALSE NEIGHBOUR: 'it returns false'. Refute it at one input. -/
def instrNumbersWrong : ChangeSpec := { name := "instrNumbers", fn := fun _ => fun
  | [d] => { results := [.lit (.bool false)], args := [d] }
  | _ => none }
def InstrNumbersWrongFalsely : Prop := instrNumbersRow.holds Try.pinned (OpenSpec.ofChange instrNumbersWrong)

/- THE SECOND FORM. 'bulk': how many values and letters a reading holds, each counted each time it is reached (what is shared counts as often as it is met; a slice's spare places count too). A statement '..UptoSaid' is the law's where the arguments, and the package variables that the reading takes, are together of bulk at most 1048576: NARROWER than '..Said'. Prove '..Said' where nothing that the law and all that it calls make is longer than what came in: it says more and counts as full. Else prove '..UptoSaid'. A law counts once. -/
mutual
def uptoBulk {H : Type} : DataW H → Nat
  | .lit (.string bytes) => bytes.length + 1
  | .lit _ => 1
  | .nil => 1
  | .ptr d => uptoBulk d + 1
  | .slice elems spare => uptoBulkAll elems + uptoBulkAll spare + 1
  | .agg parts => uptoBulkAll parts + 1
  | .iface _ d => uptoBulk d + 1
  | .map entries => uptoBulkEntries entries + 1
  | .held _ => 1
def uptoBulkAll {H : Type} : List (DataW H) → Nat
  | [] => 0
  | d :: r => uptoBulk d + uptoBulkAll r
def uptoBulkEntries {H : Type} : List (Lit × DataW H) → Nat
  | [] => 0
  | x :: r => uptoBulkEntry x + uptoBulkEntries r
def uptoBulkEntry {H : Type} : Lit × DataW H → Nat
  | (.string bytes, d) => bytes.length + uptoBulk d + 1
  | (_, d) => uptoBulk d + 1
 end
def uptoSmall : (H : Type) → List (DataW H) → Bool := fun _ ds => decide (uptoBulkAll ds ≤ 1048576)
def OpenSpec.upto (s : _root_.Go.ChangeSpec) : _root_.Go.OpenSpec := { _root_.Go.OpenSpec.ofChange s with cond := some uptoSmall }

/-- 'plaitlaw04.InstrAll', WHERE WHAT IT READS IS OF BULK AT MOST 1048576: true; the input reads as it did. -/
def instrAllUptoRow : OpenClaim := { program := "ytmoalocogccnbaa", sum := "18cc549b473fd06ce32518a54b789bafc6f9c06b11bc6ee4f73b7543b2bec5ea", func := "plait/plaitlaw04.InstrAll", spec := "instrAll", apart := false, narrowed := true }
def InstrAllUptoSaid : Prop := instrAllUptoRow.holds Try.pinned (OpenSpec.upto instrAllSpec)

/-- 'plaitlaw04.InstrApart', WHERE WHAT IT READS IS OF BULK AT MOST 1048576: true; the input reads as it did. -/
def instrApartUptoRow : OpenClaim := { program := "ytmoalocogccnbaa", sum := "18cc549b473fd06ce32518a54b789bafc6f9c06b11bc6ee4f73b7543b2bec5ea", func := "plait/plaitlaw04.InstrApart", spec := "instrApart", apart := false, narrowed := true }
def InstrApartUptoSaid : Prop := instrApartUptoRow.holds Try.pinned (OpenSpec.upto instrApartSpec)

/-- 'plaitlaw04.InstrKeeps', WHERE WHAT IT READS IS OF BULK AT MOST 1048576: true; the input reads as it did. -/
def instrKeepsUptoRow : OpenClaim := { program := "ytmoalocogccnbaa", sum := "18cc549b473fd06ce32518a54b789bafc6f9c06b11bc6ee4f73b7543b2bec5ea", func := "plait/plaitlaw04.InstrKeeps", spec := "instrKeeps", apart := false, narrowed := true }
def InstrKeepsUptoSaid : Prop := instrKeepsUptoRow.holds Try.pinned (OpenSpec.upto instrKeepsSpec)

/-- 'plaitlaw04.InstrNumbers', WHERE WHAT IT READS IS OF BULK AT MOST 1048576: true; the input reads as it did. -/
def instrNumbersUptoRow : OpenClaim := { program := "ytmoalocogccnbaa", sum := "18cc549b473fd06ce32518a54b789bafc6f9c06b11bc6ee4f73b7543b2bec5ea", func := "plait/plaitlaw04.InstrNumbers", spec := "instrNumbers", apart := false, narrowed := true }
def InstrNumbersUptoSaid : Prop := instrNumbersUptoRow.holds Try.pinned (OpenSpec.upto instrNumbersSpec)

end Rows
end Go.Proofs.Ytmoalocogccnbaa

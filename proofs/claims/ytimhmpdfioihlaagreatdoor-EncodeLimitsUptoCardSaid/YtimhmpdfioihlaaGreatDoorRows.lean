/-
  NARROWER THAN 'FOR EVERY INPUT', by the rows' own cells (each row's printed sentence says how): EncodeAll: laid · ModuleDecodes: laid · EncodeBack: laid · EncodeForth: laid · EncodeLimits: laid · EncodeKeeps: laid.
  DERIVED. THE GIVEN ROWS OF THIS SEAT. 6 by the template 'for every input the law returns true; each argument reads behind the call as it read before'; 0 by the template 'total and deterministic' (their statements: YtimhmpdfioihlaaGreatDoorTotals.lean).
  GIVEN WITH THE SEED: the statements are not yours to turn. If you find one false, say at which input.
  Laid BY PROGRAM, IN A SANDBOX (cutbox-rows.mjs): the forced cells as the released guide's own fill.sh prints them over the translation e5c937e088bd00df… (all of the seat's roots in one cut). By AI agents, Wed Nov 11 2026. No macro, syntax, notation, axiom, sorry.
-/
import Derived.Test.YtimhmpdfioihlaaGreatDoorChecked
import GoSem.PinnedTables
import GoSem.Claim
import GoSem.ClaimJoined
import GoSem.ClaimMapViews
import Derived.JoinedTies
import Derived.KernelRfl
namespace Go.Proofs.YtimhmpdfioihlaaGreatDoor
/- THE CELL 'sum', in the pinned program and in every row, IS THE sha256 OF THE DUMP (.gsa) THAT YtimhmpdfioihlaaGreatDoorProg.lean LOADS. Nothing in Lean hashes anything: it is a label: what it is worth is what the hold of that sum in a sandbox is worth. -/
noncomputable def Tryz.pinned : Pinned := { name := "ytimhmpdfioihlaagreatdoor", sum := "e5c937e088bd00df5d9ff6a1623c15e9d4acd81a338027fb9587535f41da23e7", checked := Tryz.checked }
namespace Rows
def none {H : Type} : Left H := { results := [], args := [] }

/- WHAT THE LISTED PACKAGE-LEVEL VARIABLES READ AS WHEN THE CALL BEGINS. Each datum BY PROGRAM (the guide's laid-datum.mjs) off the statement by which the dump's own 'gosem.cut.vars' lays the variable. In a bare row this is a premise. The card (YtimhmpdfioihlaaGreatDoorCards.lean) ties it to the program's text. -/
def laid_unicode_utf8_acceptRanges {H : Type} : DataW H := .agg [.agg [.lit (.int .u8 128), .lit (.int .u8 191)], .agg [.lit (.int .u8 160), .lit (.int .u8 191)], .agg [.lit (.int .u8 128), .lit (.int .u8 159)], .agg [.lit (.int .u8 144), .lit (.int .u8 191)], .agg [.lit (.int .u8 128), .lit (.int .u8 143)], .agg [.lit (.int .u8 0), .lit (.int .u8 0)], .agg [.lit (.int .u8 0), .lit (.int .u8 0)], .agg [.lit (.int .u8 0), .lit (.int .u8 0)], .agg [.lit (.int .u8 0), .lit (.int .u8 0)], .agg [.lit (.int .u8 0), .lit (.int .u8 0)], .agg [.lit (.int .u8 0), .lit (.int .u8 0)], .agg [.lit (.int .u8 0), .lit (.int .u8 0)], .agg [.lit (.int .u8 0), .lit (.int .u8 0)], .agg [.lit (.int .u8 0), .lit (.int .u8 0)], .agg [.lit (.int .u8 0), .lit (.int .u8 0)], .agg [.lit (.int .u8 0), .lit (.int .u8 0)]]
/-- One of Go's own tables, pinned by name: the form's constant. -/
def laid_unicode_utf8_first : DataW Unit := Go.Pinned.utf8First

/-- 'plaitlaw14.EncodeAll': WHATEVER THE INPUT: true; the input reads as it did. -/
def encodeAllSpec : ChangeSpec := { name := "encodeAll", fn := fun _ => fun
  | [d] => { results := [.lit (.bool true)], args := [d] }
  | _ => none }
def encodeAllRow : OpenClaim := { program := "ytimhmpdfioihlaagreatdoor", sum := "e5c937e088bd00df5d9ff6a1623c15e9d4acd81a338027fb9587535f41da23e7", func := "plait/plaitlaw14.EncodeAll", spec := "encodeAll", unfollowed := true, recurses := true, named := ["unicode/utf8.first", "unicode/utf8.acceptRanges"], apart := false, laid := [("unicode/utf8.acceptRanges", laid_unicode_utf8_acceptRanges), ("unicode/utf8.first", laid_unicode_utf8_first)] }
def EncodeAllSaid : Prop := encodeAllRow.holds Tryz.pinned (OpenSpec.ofChange encodeAllSpec)

/-- ITS FALSE NEIGHBOUR: 'it returns false'. Refute it at one input. -/
def encodeAllWrong : ChangeSpec := { name := "encodeAll", fn := fun _ => fun
  | [d] => { results := [.lit (.bool false)], args := [d] }
  | _ => none }
def EncodeAllWrongFalsely : Prop := encodeAllRow.holds Tryz.pinned (OpenSpec.ofChange encodeAllWrong)

/-- 'plaitlaw13.ModuleDecodes': WHATEVER THE INPUT: true; the input reads as it did. -/
def moduleDecodesSpec : ChangeSpec := { name := "moduleDecodes", fn := fun _ => fun
  | [d] => { results := [.lit (.bool true)], args := [d] }
  | _ => none }
def moduleDecodesRow : OpenClaim := { program := "ytimhmpdfioihlaagreatdoor", sum := "e5c937e088bd00df5d9ff6a1623c15e9d4acd81a338027fb9587535f41da23e7", func := "plait/plaitlaw13.ModuleDecodes", spec := "moduleDecodes", unfollowed := true, recurses := true, named := ["unicode/utf8.first", "unicode/utf8.acceptRanges"], apart := false, laid := [("unicode/utf8.acceptRanges", laid_unicode_utf8_acceptRanges), ("unicode/utf8.first", laid_unicode_utf8_first)] }
def ModuleDecodesSaid : Prop := moduleDecodesRow.holds Tryz.pinned (OpenSpec.ofChange moduleDecodesSpec)

/-- ITS FALSE NEIGHBOUR: 'it returns false'. Refute it at one input. -/
def moduleDecodesWrong : ChangeSpec := { name := "moduleDecodes", fn := fun _ => fun
  | [d] => { results := [.lit (.bool false)], args := [d] }
  | _ => none }
def ModuleDecodesWrongFalsely : Prop := moduleDecodesRow.holds Tryz.pinned (OpenSpec.ofChange moduleDecodesWrong)

/-- 'plaitlaw14.EncodeBack': WHATEVER THE INPUT: true; the input reads as it did. -/
def encodeBackSpec : ChangeSpec := { name := "encodeBack", fn := fun _ => fun
  | [d] => { results := [.lit (.bool true)], args := [d] }
  | _ => none }
def encodeBackRow : OpenClaim := { program := "ytimhmpdfioihlaagreatdoor", sum := "e5c937e088bd00df5d9ff6a1623c15e9d4acd81a338027fb9587535f41da23e7", func := "plait/plaitlaw14.EncodeBack", spec := "encodeBack", unfollowed := true, recurses := true, named := ["unicode/utf8.first", "unicode/utf8.acceptRanges"], apart := false, laid := [("unicode/utf8.acceptRanges", laid_unicode_utf8_acceptRanges), ("unicode/utf8.first", laid_unicode_utf8_first)] }
def EncodeBackSaid : Prop := encodeBackRow.holds Tryz.pinned (OpenSpec.ofChange encodeBackSpec)

/-- ITS FALSE NEIGHBOUR: 'it returns false'. Refute it at one input. -/
def encodeBackWrong : ChangeSpec := { name := "encodeBack", fn := fun _ => fun
  | [d] => { results := [.lit (.bool false)], args := [d] }
  | _ => none }
def EncodeBackWrongFalsely : Prop := encodeBackRow.holds Tryz.pinned (OpenSpec.ofChange encodeBackWrong)

/-- 'plaitlaw14.EncodeForth': WHATEVER THE INPUT: true; the input reads as it did. -/
def encodeForthSpec : ChangeSpec := { name := "encodeForth", fn := fun _ => fun
  | [d] => { results := [.lit (.bool true)], args := [d] }
  | _ => none }
def encodeForthRow : OpenClaim := { program := "ytimhmpdfioihlaagreatdoor", sum := "e5c937e088bd00df5d9ff6a1623c15e9d4acd81a338027fb9587535f41da23e7", func := "plait/plaitlaw14.EncodeForth", spec := "encodeForth", unfollowed := true, recurses := true, named := ["unicode/utf8.first", "unicode/utf8.acceptRanges"], apart := false, laid := [("unicode/utf8.acceptRanges", laid_unicode_utf8_acceptRanges), ("unicode/utf8.first", laid_unicode_utf8_first)] }
def EncodeForthSaid : Prop := encodeForthRow.holds Tryz.pinned (OpenSpec.ofChange encodeForthSpec)

/-- ITS FALSE NEIGHBOUR: 'it returns false'. Refute it at one input. -/
def encodeForthWrong : ChangeSpec := { name := "encodeForth", fn := fun _ => fun
  | [d] => { results := [.lit (.bool false)], args := [d] }
  | _ => none }
def EncodeForthWrongFalsely : Prop := encodeForthRow.holds Tryz.pinned (OpenSpec.ofChange encodeForthWrong)

/-- 'plaitlaw14.EncodeLimits': WHATEVER THE INPUT: true; the input reads as it did. -/
def encodeLimitsSpec : ChangeSpec := { name := "encodeLimits", fn := fun _ => fun
  | [d1, d2] => { results := [.lit (.bool true)], args := [d1, d2] }
  | _ => none }
def encodeLimitsRow : OpenClaim := { program := "ytimhmpdfioihlaagreatdoor", sum := "e5c937e088bd00df5d9ff6a1623c15e9d4acd81a338027fb9587535f41da23e7", func := "plait/plaitlaw14.EncodeLimits", spec := "encodeLimits", unfollowed := true, recurses := true, named := ["unicode/utf8.first", "unicode/utf8.acceptRanges"], apart := false, laid := [("unicode/utf8.acceptRanges", laid_unicode_utf8_acceptRanges), ("unicode/utf8.first", laid_unicode_utf8_first)] }
def EncodeLimitsSaid : Prop := encodeLimitsRow.holds Tryz.pinned (OpenSpec.ofChange encodeLimitsSpec)

/-- ITS FALSE NEIGHBOUR: 'it returns false'. Refute it at one input. -/
def encodeLimitsWrong : ChangeSpec := { name := "encodeLimits", fn := fun _ => fun
  | [d1, d2] => { results := [.lit (.bool false)], args := [d1, d2] }
  | _ => none }
def EncodeLimitsWrongFalsely : Prop := encodeLimitsRow.holds Tryz.pinned (OpenSpec.ofChange encodeLimitsWrong)

/-- 'plaitlaw14.EncodeKeeps': WHATEVER THE INPUT: true; the input reads as it did. -/
def encodeKeepsSpec : ChangeSpec := { name := "encodeKeeps", fn := fun _ => fun
  | [d] => { results := [.lit (.bool true)], args := [d] }
  | _ => none }
def encodeKeepsRow : OpenClaim := { program := "ytimhmpdfioihlaagreatdoor", sum := "e5c937e088bd00df5d9ff6a1623c15e9d4acd81a338027fb9587535f41da23e7", func := "plait/plaitlaw14.EncodeKeeps", spec := "encodeKeeps", unfollowed := true, recurses := true, named := ["unicode/utf8.first", "unicode/utf8.acceptRanges"], apart := false, laid := [("unicode/utf8.acceptRanges", laid_unicode_utf8_acceptRanges), ("unicode/utf8.first", laid_unicode_utf8_first)] }
def EncodeKeepsSaid : Prop := encodeKeepsRow.holds Tryz.pinned (OpenSpec.ofChange encodeKeepsSpec)

/-- ITS FALSE NEIGHBOUR: 'it returns false'. Refute it at one input. -/
def encodeKeepsWrong : ChangeSpec := { name := "encodeKeeps", fn := fun _ => fun
  | [d] => { results := [.lit (.bool false)], args := [d] }
  | _ => none }
def EncodeKeepsWrongFalsely : Prop := encodeKeepsRow.holds Tryz.pinned (OpenSpec.ofChange encodeKeepsWrong)

/- THE SECOND FORM. 'bulk': how many values and letters a reading holds, each counted each time it is reached (what is shared counts as often as it is met; a slice's spare places count too). A statement '..UptoSaid' is the law's where the arguments, and the package variables that the reading takes, are together of bulk at most 1048576: NARROWER than '..Said'. Prove '..Said' where nothing that the law and all that it calls make is longer than what came in: it says more and counts as full. Else prove '..UptoSaid'. A law counts once. -/
mutual
def uptoBulk {H : Type} : DataW H → Nat
  | .lit (.string bytes) => bytes.length + 1
  | .lit _ => 1
  | .nil => 1
  | .ptr d => uptoBulk d + 1
  | .slice elems spare => uptoBulkAll elems + uptoBulkAll spare + 1
  | .agg parts => uptoBulkAll parts + 1
  | .iface _ d => uptoBulk d + 1
  | .map entries => uptoBulkEntries entries + 1
  | .held _ => 1
def uptoBulkAll {H : Type} : List (DataW H) → Nat
  | [] => 0
  | d :: r => uptoBulk d + uptoBulkAll r
def uptoBulkEntries {H : Type} : List (Lit × DataW H) → Nat
  | [] => 0
  | x :: r => uptoBulkEntry x + uptoBulkEntries r
def uptoBulkEntry {H : Type} : Lit × DataW H → Nat
  | (.string bytes, d) => bytes.length + uptoBulk d + 1
  | (_, d) => uptoBulk d + 1
 end
def uptoSmall : (H : Type) → List (DataW H) → Bool := fun _ ds => decide (uptoBulkAll ds ≤ 1048576)
def OpenSpec.upto (s : _root_.Go.ChangeSpec) : _root_.Go.OpenSpec := { _root_.Go.OpenSpec.ofChange s with cond := some uptoSmall }

/-- 'plaitlaw14.EncodeAll', WHERE WHAT IT READS IS OF BULK AT MOST 1048576: true; the input reads as it did. -/
def encodeAllUptoRow : OpenClaim := { program := "ytimhmpdfioihlaagreatdoor", sum := "e5c937e088bd00df5d9ff6a1623c15e9d4acd81a338027fb9587535f41da23e7", func := "plait/plaitlaw14.EncodeAll", spec := "encodeAll", unfollowed := true, recurses := true, named := ["unicode/utf8.first", "unicode/utf8.acceptRanges"], apart := false, laid := [("unicode/utf8.acceptRanges", laid_unicode_utf8_acceptRanges), ("unicode/utf8.first", laid_unicode_utf8_first)], narrowed := true }
def EncodeAllUptoSaid : Prop := encodeAllUptoRow.holds Tryz.pinned (OpenSpec.upto encodeAllSpec)

/-- 'plaitlaw13.ModuleDecodes', WHERE WHAT IT READS IS OF BULK AT MOST 1048576: true; the input reads as it did. -/
def moduleDecodesUptoRow : OpenClaim := { program := "ytimhmpdfioihlaagreatdoor", sum := "e5c937e088bd00df5d9ff6a1623c15e9d4acd81a338027fb9587535f41da23e7", func := "plait/plaitlaw13.ModuleDecodes", spec := "moduleDecodes", unfollowed := true, recurses := true, named := ["unicode/utf8.first", "unicode/utf8.acceptRanges"], apart := false, laid := [("unicode/utf8.acceptRanges", laid_unicode_utf8_acceptRanges), ("unicode/utf8.first", laid_unicode_utf8_first)], narrowed := true }
def ModuleDecodesUptoSaid : Prop := moduleDecodesUptoRow.holds Tryz.pinned (OpenSpec.upto moduleDecodesSpec)

/-- 'plaitlaw14.EncodeBack', WHERE WHAT IT READS IS OF BULK AT MOST 1048576: true; the input reads as it did. -/
def encodeBackUptoRow : OpenClaim := { program := "ytimhmpdfioihlaagreatdoor", sum := "e5c937e088bd00df5d9ff6a1623c15e9d4acd81a338027fb9587535f41da23e7", func := "plait/plaitlaw14.EncodeBack", spec := "encodeBack", unfollowed := true, recurses := true, named := ["unicode/utf8.first", "unicode/utf8.acceptRanges"], apart := false, laid := [("unicode/utf8.acceptRanges", laid_unicode_utf8_acceptRanges), ("unicode/utf8.first", laid_unicode_utf8_first)], narrowed := true }
def EncodeBackUptoSaid : Prop := encodeBackUptoRow.holds Tryz.pinned (OpenSpec.upto encodeBackSpec)

/-- 'plaitlaw14.EncodeForth', WHERE WHAT IT READS IS OF BULK AT MOST 1048576: true; the input reads as it did. -/
def encodeForthUptoRow : OpenClaim := { program := "ytimhmpdfioihlaagreatdoor", sum := "e5c937e088bd00df5d9ff6a1623c15e9d4acd81a338027fb9587535f41da23e7", func := "plait/plaitlaw14.EncodeForth", spec := "encodeForth", unfollowed := true, recurses := true, named := ["unicode/utf8.first", "unicode/utf8.acceptRanges"], apart := false, laid := [("unicode/utf8.acceptRanges", laid_unicode_utf8_acceptRanges), ("unicode/utf8.first", laid_unicode_utf8_first)], narrowed := true }
def EncodeForthUptoSaid : Prop := encodeForthUptoRow.holds Tryz.pinned (OpenSpec.upto encodeForthSpec)

/-- 'plaitlaw14.EncodeLimits', WHERE WHAT IT READS IS OF BULK AT MOST 1048576: true; the input reads as it did. -/
def encodeLimitsUptoRow : OpenClaim := { program := "ytimhmpdfioihlaagreatdoor", sum := "e5c937e088bd00df5d9ff6a1623c15e9d4acd81a338027fb9587535f41da23e7", func := "plait/plaitlaw14.EncodeLimits", spec := "encodeLimits", unfollowed := true, recurses := true, named := ["unicode/utf8.first", "unicode/utf8.acceptRanges"], apart := false, laid := [("unicode/utf8.acceptRanges", laid_unicode_utf8_acceptRanges), ("unicode/utf8.first", laid_unicode_utf8_first)], narrowed := true }
def EncodeLimitsUptoSaid : Prop := encodeLimitsUptoRow.holds Tryz.pinned (OpenSpec.upto encodeLimitsSpec)

/-- 'plaitlaw14.EncodeKeeps', WHERE WHAT IT READS IS OF BULK AT MOST 1048576: true; the input reads as it did. -/
def encodeKeepsUptoRow : OpenClaim := { program := "ytimhmpdfioihlaagreatdoor", sum := "e5c937e088bd00df5d9ff6a1623c15e9d4acd81a338027fb9587535f41da23e7", func := "plait/plaitlaw14.EncodeKeeps", spec := "encodeKeeps", unfollowed := true, recurses := true, named := ["unicode/utf8.first", "unicode/utf8.acceptRanges"], apart := false, laid := [("unicode/utf8.acceptRanges", laid_unicode_utf8_acceptRanges), ("unicode/utf8.first", laid_unicode_utf8_first)], narrowed := true }
def EncodeKeepsUptoSaid : Prop := encodeKeepsUptoRow.holds Tryz.pinned (OpenSpec.upto encodeKeepsSpec)

end Rows
end Go.Proofs.YtimhmpdfioihlaaGreatDoor

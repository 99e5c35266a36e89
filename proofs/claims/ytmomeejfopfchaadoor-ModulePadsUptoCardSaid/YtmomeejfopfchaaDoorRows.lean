/-
  NARROWER THAN 'FOR EVERY INPUT', by the rows' own cells (each row's printed sentence says how): ModulePads: laid · ModuleCuts: laid · ModuleOrder: laid · ModuleLong: laid · ModuleKeeps: laid.
  DERIVED. THE GIVEN ROWS OF THIS SEAT. 5 by the template 'for every input the law returns true; each argument reads behind the call as it read before'; 0 by the template 'total and deterministic' (their statements: YtmomeejfopfchaaDoorTotals.lean).
  GIVEN WITH THE SEED: the statements are not yours to turn. If you find one false, say at which input.
  Laid BY PROGRAM, IN A SANDBOX (cutbox-rows.mjs): the forced cells as the released guide's own fill.sh prints them over the translation 12ec9cd3a26cd6e3… (all of the seat's roots in one cut). By AI agents, Wed Nov 11 2026. No macro, syntax, notation, axiom, sorry.
-/
import Derived.Test.YtmomeejfopfchaaDoorChecked
import GoSem.PinnedTables
import GoSem.Claim
import GoSem.ClaimJoined
import GoSem.ClaimMapViews
import Derived.JoinedTies
import Derived.KernelRfl
namespace Go.Proofs.YtmomeejfopfchaaDoor
/- THE CELL 'sum', in the pinned program and in every row, IS THE sha256 OF THE DUMP (.gsa) THAT YtmomeejfopfchaaDoorProg.lean LOADS. Nothing in Lean hashes anything: it is a label: what it is worth is what the hold of that sum in a sandbox is worth. -/
noncomputable def Tryd.pinned : Pinned := { name := "ytmomeejfopfchaadoor", sum := "12ec9cd3a26cd6e33eefe6694035d9f591d389cc7ed4d43825a6e217b565955c", checked := Tryd.checked }
namespace Rows
def none {H : Type} : Left H := { results := [], args := [] }

/- WHAT THE LISTED PACKAGE-LEVEL VARIABLES READ AS WHEN THE CALL BEGINS. Each datum BY PROGRAM (the guide's laid-datum.mjs) off the statement by which the dump's own 'gosem.cut.vars' lays the variable. In a bare row this is a premise. The card (YtmomeejfopfchaaDoorCards.lean) ties it to the program's text. -/
def laid_unicode_utf8_acceptRanges {H : Type} : DataW H := .agg [.agg [.lit (.int .u8 128), .lit (.int .u8 191)], .agg [.lit (.int .u8 160), .lit (.int .u8 191)], .agg [.lit (.int .u8 128), .lit (.int .u8 159)], .agg [.lit (.int .u8 144), .lit (.int .u8 191)], .agg [.lit (.int .u8 128), .lit (.int .u8 143)], .agg [.lit (.int .u8 0), .lit (.int .u8 0)], .agg [.lit (.int .u8 0), .lit (.int .u8 0)], .agg [.lit (.int .u8 0), .lit (.int .u8 0)], .agg [.lit (.int .u8 0), .lit (.int .u8 0)], .agg [.lit (.int .u8 0), .lit (.int .u8 0)], .agg [.lit (.int .u8 0), .lit (.int .u8 0)], .agg [.lit (.int .u8 0), .lit (.int .u8 0)], .agg [.lit (.int .u8 0), .lit (.int .u8 0)], .agg [.lit (.int .u8 0), .lit (.int .u8 0)], .agg [.lit (.int .u8 0), .lit (.int .u8 0)], .agg [.lit (.int .u8 0), .lit (.int .u8 0)]]
/-- One of Go's own tables, pinned by name: the form's constant. -/
def laid_unicode_utf8_first : DataW Unit := Go.Pinned.utf8First

/-- 'plaitlaw13.ModulePads': WHATEVER THE INPUT: true; the input reads as it did. -/
def modulePadsSpec : ChangeSpec := { name := "modulePads", fn := fun _ => fun
  | [d1, d2, d3] => { results := [.lit (.bool true)], args := [d1, d2, d3] }
  | _ => none }
def modulePadsRow : OpenClaim := { program := "ytmomeejfopfchaadoor", sum := "12ec9cd3a26cd6e33eefe6694035d9f591d389cc7ed4d43825a6e217b565955c", func := "plait/plaitlaw13.ModulePads", spec := "modulePads", unfollowed := true, recurses := true, named := ["unicode/utf8.first", "unicode/utf8.acceptRanges"], apart := false, laid := [("unicode/utf8.acceptRanges", laid_unicode_utf8_acceptRanges), ("unicode/utf8.first", laid_unicode_utf8_first)] }
def ModulePadsSaid : Prop := modulePadsRow.holds Tryd.pinned (OpenSpec.ofChange modulePadsSpec)

/-- ITS FALSE NEIGHBOUR: 'it returns false'. Refute it at one input. -/
def modulePadsWrong : ChangeSpec := { name := "modulePads", fn := fun _ => fun
  | [d1, d2, d3] => { results := [.lit (.bool false)], args := [d1, d2, d3] }
  | _ => none }
def ModulePadsWrongFalsely : Prop := modulePadsRow.holds Tryd.pinned (OpenSpec.ofChange modulePadsWrong)

/-- 'plaitlaw13.ModuleCuts': WHATEVER THE INPUT: true; the input reads as it did. -/
def moduleCutsSpec : ChangeSpec := { name := "moduleCuts", fn := fun _ => fun
  | [d1, d2] => { results := [.lit (.bool true)], args := [d1, d2] }
  | _ => none }
def moduleCutsRow : OpenClaim := { program := "ytmomeejfopfchaadoor", sum := "12ec9cd3a26cd6e33eefe6694035d9f591d389cc7ed4d43825a6e217b565955c", func := "plait/plaitlaw13.ModuleCuts", spec := "moduleCuts", unfollowed := true, recurses := true, named := ["unicode/utf8.first", "unicode/utf8.acceptRanges"], apart := false, laid := [("unicode/utf8.acceptRanges", laid_unicode_utf8_acceptRanges), ("unicode/utf8.first", laid_unicode_utf8_first)] }
def ModuleCutsSaid : Prop := moduleCutsRow.holds Tryd.pinned (OpenSpec.ofChange moduleCutsSpec)

/-- ITS FALSE NEIGHBOUR: 'it returns false'. Refute it at one input. -/
def moduleCutsWrong : ChangeSpec := { name := "moduleCuts", fn := fun _ => fun
  | [d1, d2] => { results := [.lit (.bool false)], args := [d1, d2] }
  | _ => none }
def ModuleCutsWrongFalsely : Prop := moduleCutsRow.holds Tryd.pinned (OpenSpec.ofChange moduleCutsWrong)

/-- 'plaitlaw13.ModuleOrder': WHATEVER THE INPUT: true; the input reads as it did. -/
def moduleOrderSpec : ChangeSpec := { name := "moduleOrder", fn := fun _ => fun
  | [d1, d2, d3] => { results := [.lit (.bool true)], args := [d1, d2, d3] }
  | _ => none }
def moduleOrderRow : OpenClaim := { program := "ytmomeejfopfchaadoor", sum := "12ec9cd3a26cd6e33eefe6694035d9f591d389cc7ed4d43825a6e217b565955c", func := "plait/plaitlaw13.ModuleOrder", spec := "moduleOrder", unfollowed := true, recurses := true, named := ["unicode/utf8.first", "unicode/utf8.acceptRanges"], apart := false, laid := [("unicode/utf8.acceptRanges", laid_unicode_utf8_acceptRanges), ("unicode/utf8.first", laid_unicode_utf8_first)] }
def ModuleOrderSaid : Prop := moduleOrderRow.holds Tryd.pinned (OpenSpec.ofChange moduleOrderSpec)

/-- ITS FALSE NEIGHBOUR: 'it returns false'. Refute it at one input. -/
def moduleOrderWrong : ChangeSpec := { name := "moduleOrder", fn := fun _ => fun
  | [d1, d2, d3] => { results := [.lit (.bool false)], args := [d1, d2, d3] }
  | _ => none }
def ModuleOrderWrongFalsely : Prop := moduleOrderRow.holds Tryd.pinned (OpenSpec.ofChange moduleOrderWrong)

/-- 'plaitlaw13.ModuleLong': WHATEVER THE INPUT: true; the input reads as it did. -/
def moduleLongSpec : ChangeSpec := { name := "moduleLong", fn := fun _ => fun
  | [d] => { results := [.lit (.bool true)], args := [d] }
  | _ => none }
def moduleLongRow : OpenClaim := { program := "ytmomeejfopfchaadoor", sum := "12ec9cd3a26cd6e33eefe6694035d9f591d389cc7ed4d43825a6e217b565955c", func := "plait/plaitlaw13.ModuleLong", spec := "moduleLong", unfollowed := true, recurses := true, named := ["unicode/utf8.first", "unicode/utf8.acceptRanges"], apart := false, laid := [("unicode/utf8.acceptRanges", laid_unicode_utf8_acceptRanges), ("unicode/utf8.first", laid_unicode_utf8_first)] }
def ModuleLongSaid : Prop := moduleLongRow.holds Tryd.pinned (OpenSpec.ofChange moduleLongSpec)

/-- ITS FALSE NEIGHBOUR: 'it returns false'. Refute it at one input. -/
def moduleLongWrong : ChangeSpec := { name := "moduleLong", fn := fun _ => fun
  | [d] => { results := [.lit (.bool false)], args := [d] }
  | _ => none }
def ModuleLongWrongFalsely : Prop := moduleLongRow.holds Tryd.pinned (OpenSpec.ofChange moduleLongWrong)

/-- 'plaitlaw13.ModuleKeeps': WHATEVER THE INPUT: true; the input reads as it did. -/
def moduleKeepsSpec : ChangeSpec := { name := "moduleKeeps", fn := fun _ => fun
  | [d] => { results := [.lit (.bool true)], args := [d] }
  | _ => none }
def moduleKeepsRow : OpenClaim := { program := "ytmomeejfopfchaadoor", sum := "12ec9cd3a26cd6e33eefe6694035d9f591d389cc7ed4d43825a6e217b565955c", func := "plait/plaitlaw13.ModuleKeeps", spec := "moduleKeeps", unfollowed := true, recurses := true, named := ["unicode/utf8.first", "unicode/utf8.acceptRanges"], apart := false, laid := [("unicode/utf8.acceptRanges", laid_unicode_utf8_acceptRanges), ("unicode/utf8.first", laid_unicode_utf8_first)] }
def ModuleKeepsSaid : Prop := moduleKeepsRow.holds Tryd.pinned (OpenSpec.ofChange moduleKeepsSpec)

/-- ITS FALSE NEIGHBOUR: 'it returns false'. Refute it at one input. -/
def moduleKeepsWrong : ChangeSpec := { name := "moduleKeeps", fn := fun _ => fun
  | [d] => { results := [.lit (.bool false)], args := [d] }
  | _ => none }
def ModuleKeepsWrongFalsely : Prop := moduleKeepsRow.holds Tryd.pinned (OpenSpec.ofChange moduleKeepsWrong)

/- THE SECOND FORM. 'bulk': how many values and letters a reading holds, each counted each time it is reached (what is shared counts as often as it is met; a slice's spare places count too). A statement '..UptoSaid' is the law's where the arguments, and the package variables that the reading takes, are together of bulk at most 1048576: NARROWER than '..Said'. Prove '..Said' where nothing that the law and all that it calls make is longer than what came in: it says more and counts as full. Else prove '..UptoSaid'. A law counts once. -/
mutual
def uptoBulk {H : Type} : DataW H → Nat
  | .lit (.string bytes) => bytes.length + 1
  | .lit _ => 1
  | .nil => 1
  | .ptr d => uptoBulk d + 1
  | .slice elems spare => uptoBulkAll elems + uptoBulkAll spare + 1
  | .agg parts => uptoBulkAll parts + 1
  | .iface _ d => uptoBulk d + 1
  | .map entries => uptoBulkEntries entries + 1
  | .held _ => 1
def uptoBulkAll {H : Type} : List (DataW H) → Nat
  | [] => 0
  | d :: r => uptoBulk d + uptoBulkAll r
def uptoBulkEntries {H : Type} : List (Lit × DataW H) → Nat
  | [] => 0
  | x :: r => uptoBulkEntry x + uptoBulkEntries r
def uptoBulkEntry {H : Type} : Lit × DataW H → Nat
  | (.string bytes, d) => bytes.length + uptoBulk d + 1
  | (_, d) => uptoBulk d + 1
 end
def uptoSmall : (H : Type) → List (DataW H) → Bool := fun _ ds => decide (uptoBulkAll ds ≤ 1048576)
def OpenSpec.upto (s : _root_.Go.ChangeSpec) : _root_.Go.OpenSpec := { _root_.Go.OpenSpec.ofChange s with cond := some uptoSmall }

/-- 'plaitlaw13.ModulePads', WHERE WHAT IT READS IS OF BULK AT MOST 1048576: true; the input reads as it did. -/
def modulePadsUptoRow : OpenClaim := { program := "ytmomeejfopfchaadoor", sum := "12ec9cd3a26cd6e33eefe6694035d9f591d389cc7ed4d43825a6e217b565955c", func := "plait/plaitlaw13.ModulePads", spec := "modulePads", unfollowed := true, recurses := true, named := ["unicode/utf8.first", "unicode/utf8.acceptRanges"], apart := false, laid := [("unicode/utf8.acceptRanges", laid_unicode_utf8_acceptRanges), ("unicode/utf8.first", laid_unicode_utf8_first)], narrowed := true }
def ModulePadsUptoSaid : Prop := modulePadsUptoRow.holds Tryd.pinned (OpenSpec.upto modulePadsSpec)

/-- 'plaitlaw13.ModuleCuts', WHERE WHAT IT READS IS OF BULK AT MOST 1048576: true; the input reads as it did. -/
def moduleCutsUptoRow : OpenClaim := { program := "ytmomeejfopfchaadoor", sum := "12ec9cd3a26cd6e33eefe6694035d9f591d389cc7ed4d43825a6e217b565955c", func := "plait/plaitlaw13.ModuleCuts", spec := "moduleCuts", unfollowed := true, recurses := true, named := ["unicode/utf8.first", "unicode/utf8.acceptRanges"], apart := false, laid := [("unicode/utf8.acceptRanges", laid_unicode_utf8_acceptRanges), ("unicode/utf8.first", laid_unicode_utf8_first)], narrowed := true }
def ModuleCutsUptoSaid : Prop := moduleCutsUptoRow.holds Tryd.pinned (OpenSpec.upto moduleCutsSpec)

/-- 'plaitlaw13.ModuleOrder', WHERE WHAT IT READS IS OF BULK AT MOST 1048576: true; the input reads as it did. -/
def moduleOrderUptoRow : OpenClaim := { program := "ytmomeejfopfchaadoor", sum := "12ec9cd3a26cd6e33eefe6694035d9f591d389cc7ed4d43825a6e217b565955c", func := "plait/plaitlaw13.ModuleOrder", spec := "moduleOrder", unfollowed := true, recurses := true, named := ["unicode/utf8.first", "unicode/utf8.acceptRanges"], apart := false, laid := [("unicode/utf8.acceptRanges", laid_unicode_utf8_acceptRanges), ("unicode/utf8.first", laid_unicode_utf8_first)], narrowed := true }
def ModuleOrderUptoSaid : Prop := moduleOrderUptoRow.holds Tryd.pinned (OpenSpec.upto moduleOrderSpec)

/-- 'plaitlaw13.ModuleLong', WHERE WHAT IT READS IS OF BULK AT MOST 1048576: true; the input reads as it did. -/
def moduleLongUptoRow : OpenClaim := { program := "ytmomeejfopfchaadoor", sum := "12ec9cd3a26cd6e33eefe6694035d9f591d389cc7ed4d43825a6e217b565955c", func := "plait/plaitlaw13.ModuleLong", spec := "moduleLong", unfollowed := true, recurses := true, named := ["unicode/utf8.first", "unicode/utf8.acceptRanges"], apart := false, laid := [("unicode/utf8.acceptRanges", laid_unicode_utf8_acceptRanges), ("unicode/utf8.first", laid_unicode_utf8_first)], narrowed := true }
def ModuleLongUptoSaid : Prop := moduleLongUptoRow.holds Tryd.pinned (OpenSpec.upto moduleLongSpec)

/-- 'plaitlaw13.ModuleKeeps', WHERE WHAT IT READS IS OF BULK AT MOST 1048576: true; the input reads as it did. -/
def moduleKeepsUptoRow : OpenClaim := { program := "ytmomeejfopfchaadoor", sum := "12ec9cd3a26cd6e33eefe6694035d9f591d389cc7ed4d43825a6e217b565955c", func := "plait/plaitlaw13.ModuleKeeps", spec := "moduleKeeps", unfollowed := true, recurses := true, named := ["unicode/utf8.first", "unicode/utf8.acceptRanges"], apart := false, laid := [("unicode/utf8.acceptRanges", laid_unicode_utf8_acceptRanges), ("unicode/utf8.first", laid_unicode_utf8_first)], narrowed := true }
def ModuleKeepsUptoSaid : Prop := moduleKeepsUptoRow.holds Tryd.pinned (OpenSpec.upto moduleKeepsSpec)

end Rows
end Go.Proofs.YtmomeejfopfchaaDoor

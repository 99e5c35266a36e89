/-
  DERIVED. GIVEN WITH THE SEED: THE CARDS: each row of YtmomeejfopfchaaDoorRows.lean that lists a variable, with what it lists TIED to the program's text (the seventh form; the later family's looks); each row that meets fmt, with fmt's text TOLD by the authors' own Lean function (tested against real Go, not proved from fmt's source: count such statements apart). THE CARD IS WHAT COUNTS. Prove the row's statement (the work); the ties are given (YtmomeejfopfchaaDoorTie.lean); close each card by the builder's one call (the guide's Derived/Test/ToyasCard.lean, 'card_holds'). Laid BY PROGRAM, IN A SANDBOX (cutbox-door.mjs). By AI agents, Wed Nov 11 2026. No macro, syntax, notation, axiom, sorry.
-/
import Derived.Test.YtmomeejfopfchaaDoorRows
import GoSem.ClaimSeven
namespace Go.Proofs.YtmomeejfopfchaaDoor
namespace Rows

/-- THE TIED CARD OF 'plaitlaw13.ModulePads'. -/
def modulePadsCard : Claim7 := { stood := { row := modulePadsRow, standIns := [], harness := (true, "07e7729d50e84d6bcc7406ade5ff18f696415f79926b72702bb13db52d47ce84"), looks := true }, kinds := [], alts := [], laidByText := true, laidKinds := [.data, .pinned], laidTests := true, laidLooks := .later }
def ModulePadsCardSaid : Prop := Claim7.holds Tryd.pinned (.plain (OpenSpec.ofChange modulePadsSpec)) modulePadsCard

/-- THE TIED CARD OF 'plaitlaw13.ModuleCuts'. -/
def moduleCutsCard : Claim7 := { stood := { row := moduleCutsRow, standIns := [], harness := (true, "07e7729d50e84d6bcc7406ade5ff18f696415f79926b72702bb13db52d47ce84"), looks := true }, kinds := [], alts := [], laidByText := true, laidKinds := [.data, .pinned], laidTests := true, laidLooks := .later }
def ModuleCutsCardSaid : Prop := Claim7.holds Tryd.pinned (.plain (OpenSpec.ofChange moduleCutsSpec)) moduleCutsCard

/-- THE TIED CARD OF 'plaitlaw13.ModuleOrder'. -/
def moduleOrderCard : Claim7 := { stood := { row := moduleOrderRow, standIns := [], harness := (true, "07e7729d50e84d6bcc7406ade5ff18f696415f79926b72702bb13db52d47ce84"), looks := true }, kinds := [], alts := [], laidByText := true, laidKinds := [.data, .pinned], laidTests := true, laidLooks := .later }
def ModuleOrderCardSaid : Prop := Claim7.holds Tryd.pinned (.plain (OpenSpec.ofChange moduleOrderSpec)) moduleOrderCard

/-- THE TIED CARD OF 'plaitlaw13.ModuleLong'. -/
def moduleLongCard : Claim7 := { stood := { row := moduleLongRow, standIns := [], harness := (true, "07e7729d50e84d6bcc7406ade5ff18f696415f79926b72702bb13db52d47ce84"), looks := true }, kinds := [], alts := [], laidByText := true, laidKinds := [.data, .pinned], laidTests := true, laidLooks := .later }
def ModuleLongCardSaid : Prop := Claim7.holds Tryd.pinned (.plain (OpenSpec.ofChange moduleLongSpec)) moduleLongCard

/-- THE TIED CARD OF 'plaitlaw13.ModuleKeeps'. -/
def moduleKeepsCard : Claim7 := { stood := { row := moduleKeepsRow, standIns := [], harness := (true, "07e7729d50e84d6bcc7406ade5ff18f696415f79926b72702bb13db52d47ce84"), looks := true }, kinds := [], alts := [], laidByText := true, laidKinds := [.data, .pinned], laidTests := true, laidLooks := .later }
def ModuleKeepsCardSaid : Prop := Claim7.holds Tryd.pinned (.plain (OpenSpec.ofChange moduleKeepsSpec)) moduleKeepsCard

/-- THE SECOND FORM's CARD OF 'plaitlaw13.ModulePads'. -/
def modulePadsUptoCard : Claim7 := { stood := { row := modulePadsUptoRow, standIns := [], harness := (true, "07e7729d50e84d6bcc7406ade5ff18f696415f79926b72702bb13db52d47ce84"), looks := true }, kinds := [], alts := [], laidByText := true, laidKinds := [.data, .pinned], laidTests := true, laidLooks := .later }
def ModulePadsUptoCardSaid : Prop := Claim7.holds Tryd.pinned (.plain (OpenSpec.upto modulePadsSpec)) modulePadsUptoCard

/-- THE SECOND FORM's CARD OF 'plaitlaw13.ModuleCuts'. -/
def moduleCutsUptoCard : Claim7 := { stood := { row := moduleCutsUptoRow, standIns := [], harness := (true, "07e7729d50e84d6bcc7406ade5ff18f696415f79926b72702bb13db52d47ce84"), looks := true }, kinds := [], alts := [], laidByText := true, laidKinds := [.data, .pinned], laidTests := true, laidLooks := .later }
def ModuleCutsUptoCardSaid : Prop := Claim7.holds Tryd.pinned (.plain (OpenSpec.upto moduleCutsSpec)) moduleCutsUptoCard

/-- THE SECOND FORM's CARD OF 'plaitlaw13.ModuleOrder'. -/
def moduleOrderUptoCard : Claim7 := { stood := { row := moduleOrderUptoRow, standIns := [], harness := (true, "07e7729d50e84d6bcc7406ade5ff18f696415f79926b72702bb13db52d47ce84"), looks := true }, kinds := [], alts := [], laidByText := true, laidKinds := [.data, .pinned], laidTests := true, laidLooks := .later }
def ModuleOrderUptoCardSaid : Prop := Claim7.holds Tryd.pinned (.plain (OpenSpec.upto moduleOrderSpec)) moduleOrderUptoCard

/-- THE SECOND FORM's CARD OF 'plaitlaw13.ModuleLong'. -/
def moduleLongUptoCard : Claim7 := { stood := { row := moduleLongUptoRow, standIns := [], harness := (true, "07e7729d50e84d6bcc7406ade5ff18f696415f79926b72702bb13db52d47ce84"), looks := true }, kinds := [], alts := [], laidByText := true, laidKinds := [.data, .pinned], laidTests := true, laidLooks := .later }
def ModuleLongUptoCardSaid : Prop := Claim7.holds Tryd.pinned (.plain (OpenSpec.upto moduleLongSpec)) moduleLongUptoCard

/-- THE SECOND FORM's CARD OF 'plaitlaw13.ModuleKeeps'. -/
def moduleKeepsUptoCard : Claim7 := { stood := { row := moduleKeepsUptoRow, standIns := [], harness := (true, "07e7729d50e84d6bcc7406ade5ff18f696415f79926b72702bb13db52d47ce84"), looks := true }, kinds := [], alts := [], laidByText := true, laidKinds := [.data, .pinned], laidTests := true, laidLooks := .later }
def ModuleKeepsUptoCardSaid : Prop := Claim7.holds Tryd.pinned (.plain (OpenSpec.upto moduleKeepsSpec)) moduleKeepsUptoCard
end Rows
end Go.Proofs.YtmomeejfopfchaaDoor

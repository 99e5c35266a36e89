/-
  DERIVED. GIVEN WITH THE SEED: THE CARDS: each row of YtimhmpdfioihlaaGreatDoorRows.lean that lists a variable, with what it lists TIED to the program's text (the seventh form; the later family's looks); each row that meets fmt, with fmt's text TOLD by the authors' own Lean function (tested against real Go, not proved from fmt's source: count such statements apart). THE CARD IS WHAT COUNTS. Prove the row's statement (the work); the ties are given (YtimhmpdfioihlaaGreatDoorTie.lean); close each card by the builder's one call (the guide's Derived/Test/ToyasCard.lean, 'card_holds'). Laid BY PROGRAM, IN A SANDBOX (cutbox-door.mjs). By AI agents, Wed Nov 11 2026. No macro, syntax, notation, axiom, sorry.
-/
import Derived.Test.YtimhmpdfioihlaaGreatDoorRows
import GoSem.ClaimSeven
namespace Go.Proofs.YtimhmpdfioihlaaGreatDoor
namespace Rows

/-- THE TIED CARD OF 'plaitlaw14.EncodeAll'. -/
def encodeAllCard : Claim7 := { stood := { row := encodeAllRow, standIns := [], harness := (true, "80f8f863af1b38204530f0cc7948232dfccd569a0ccd33f9c9d9188e51636b39"), looks := true }, kinds := [], alts := [], laidByText := true, laidKinds := [.data, .pinned], laidTests := true, laidLooks := .later }
def EncodeAllCardSaid : Prop := Claim7.holds Tryz.pinned (.plain (OpenSpec.ofChange encodeAllSpec)) encodeAllCard

/-- THE TIED CARD OF 'plaitlaw13.ModuleDecodes'. -/
def moduleDecodesCard : Claim7 := { stood := { row := moduleDecodesRow, standIns := [], harness := (true, "80f8f863af1b38204530f0cc7948232dfccd569a0ccd33f9c9d9188e51636b39"), looks := true }, kinds := [], alts := [], laidByText := true, laidKinds := [.data, .pinned], laidTests := true, laidLooks := .later }
def ModuleDecodesCardSaid : Prop := Claim7.holds Tryz.pinned (.plain (OpenSpec.ofChange moduleDecodesSpec)) moduleDecodesCard

/-- THE TIED CARD OF 'plaitlaw14.EncodeBack'. -/
def encodeBackCard : Claim7 := { stood := { row := encodeBackRow, standIns := [], harness := (true, "80f8f863af1b38204530f0cc7948232dfccd569a0ccd33f9c9d9188e51636b39"), looks := true }, kinds := [], alts := [], laidByText := true, laidKinds := [.data, .pinned], laidTests := true, laidLooks := .later }
def EncodeBackCardSaid : Prop := Claim7.holds Tryz.pinned (.plain (OpenSpec.ofChange encodeBackSpec)) encodeBackCard

/-- THE TIED CARD OF 'plaitlaw14.EncodeForth'. -/
def encodeForthCard : Claim7 := { stood := { row := encodeForthRow, standIns := [], harness := (true, "80f8f863af1b38204530f0cc7948232dfccd569a0ccd33f9c9d9188e51636b39"), looks := true }, kinds := [], alts := [], laidByText := true, laidKinds := [.data, .pinned], laidTests := true, laidLooks := .later }
def EncodeForthCardSaid : Prop := Claim7.holds Tryz.pinned (.plain (OpenSpec.ofChange encodeForthSpec)) encodeForthCard

/-- THE TIED CARD OF 'plaitlaw14.EncodeLimits'. -/
def encodeLimitsCard : Claim7 := { stood := { row := encodeLimitsRow, standIns := [], harness := (true, "80f8f863af1b38204530f0cc7948232dfccd569a0ccd33f9c9d9188e51636b39"), looks := true }, kinds := [], alts := [], laidByText := true, laidKinds := [.data, .pinned], laidTests := true, laidLooks := .later }
def EncodeLimitsCardSaid : Prop := Claim7.holds Tryz.pinned (.plain (OpenSpec.ofChange encodeLimitsSpec)) encodeLimitsCard

/-- THE TIED CARD OF 'plaitlaw14.EncodeKeeps'. -/
def encodeKeepsCard : Claim7 := { stood := { row := encodeKeepsRow, standIns := [], harness := (true, "80f8f863af1b38204530f0cc7948232dfccd569a0ccd33f9c9d9188e51636b39"), looks := true }, kinds := [], alts := [], laidByText := true, laidKinds := [.data, .pinned], laidTests := true, laidLooks := .later }
def EncodeKeepsCardSaid : Prop := Claim7.holds Tryz.pinned (.plain (OpenSpec.ofChange encodeKeepsSpec)) encodeKeepsCard

/-- THE SECOND FORM's CARD OF 'plaitlaw14.EncodeAll'. -/
def encodeAllUptoCard : Claim7 := { stood := { row := encodeAllUptoRow, standIns := [], harness := (true, "80f8f863af1b38204530f0cc7948232dfccd569a0ccd33f9c9d9188e51636b39"), looks := true }, kinds := [], alts := [], laidByText := true, laidKinds := [.data, .pinned], laidTests := true, laidLooks := .later }
def EncodeAllUptoCardSaid : Prop := Claim7.holds Tryz.pinned (.plain (OpenSpec.upto encodeAllSpec)) encodeAllUptoCard

/-- THE SECOND FORM's CARD OF 'plaitlaw13.ModuleDecodes'. -/
def moduleDecodesUptoCard : Claim7 := { stood := { row := moduleDecodesUptoRow, standIns := [], harness := (true, "80f8f863af1b38204530f0cc7948232dfccd569a0ccd33f9c9d9188e51636b39"), looks := true }, kinds := [], alts := [], laidByText := true, laidKinds := [.data, .pinned], laidTests := true, laidLooks := .later }
def ModuleDecodesUptoCardSaid : Prop := Claim7.holds Tryz.pinned (.plain (OpenSpec.upto moduleDecodesSpec)) moduleDecodesUptoCard

/-- THE SECOND FORM's CARD OF 'plaitlaw14.EncodeBack'. -/
def encodeBackUptoCard : Claim7 := { stood := { row := encodeBackUptoRow, standIns := [], harness := (true, "80f8f863af1b38204530f0cc7948232dfccd569a0ccd33f9c9d9188e51636b39"), looks := true }, kinds := [], alts := [], laidByText := true, laidKinds := [.data, .pinned], laidTests := true, laidLooks := .later }
def EncodeBackUptoCardSaid : Prop := Claim7.holds Tryz.pinned (.plain (OpenSpec.upto encodeBackSpec)) encodeBackUptoCard

/-- THE SECOND FORM's CARD OF 'plaitlaw14.EncodeForth'. -/
def encodeForthUptoCard : Claim7 := { stood := { row := encodeForthUptoRow, standIns := [], harness := (true, "80f8f863af1b38204530f0cc7948232dfccd569a0ccd33f9c9d9188e51636b39"), looks := true }, kinds := [], alts := [], laidByText := true, laidKinds := [.data, .pinned], laidTests := true, laidLooks := .later }
def EncodeForthUptoCardSaid : Prop := Claim7.holds Tryz.pinned (.plain (OpenSpec.upto encodeForthSpec)) encodeForthUptoCard

/-- THE SECOND FORM's CARD OF 'plaitlaw14.EncodeLimits'. -/
def encodeLimitsUptoCard : Claim7 := { stood := { row := encodeLimitsUptoRow, standIns := [], harness := (true, "80f8f863af1b38204530f0cc7948232dfccd569a0ccd33f9c9d9188e51636b39"), looks := true }, kinds := [], alts := [], laidByText := true, laidKinds := [.data, .pinned], laidTests := true, laidLooks := .later }
def EncodeLimitsUptoCardSaid : Prop := Claim7.holds Tryz.pinned (.plain (OpenSpec.upto encodeLimitsSpec)) encodeLimitsUptoCard

/-- THE SECOND FORM's CARD OF 'plaitlaw14.EncodeKeeps'. -/
def encodeKeepsUptoCard : Claim7 := { stood := { row := encodeKeepsUptoRow, standIns := [], harness := (true, "80f8f863af1b38204530f0cc7948232dfccd569a0ccd33f9c9d9188e51636b39"), looks := true }, kinds := [], alts := [], laidByText := true, laidKinds := [.data, .pinned], laidTests := true, laidLooks := .later }
def EncodeKeepsUptoCardSaid : Prop := Claim7.holds Tryz.pinned (.plain (OpenSpec.upto encodeKeepsSpec)) encodeKeepsUptoCard
end Rows
end Go.Proofs.YtimhmpdfioihlaaGreatDoor

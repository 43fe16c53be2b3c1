/-
  DERIVED. GIVEN WITH THE SEED: THE CARDS: each row of YtahdeighocmijaaGreatDoorRows.lean that lists a variable, with what it lists TIED to the program's text (the seventh form; the later family's looks); each row that meets fmt, with fmt's text TOLD by the authors' own Lean function (tested against real Go, not proved from fmt's source: count such statements apart). THE CARD IS WHAT COUNTS. Prove the row's statement (the work); the ties are given (YtahdeighocmijaaGreatDoorTie.lean); close each card by the builder's one call (the guide's Derived/Test/ToyasCard.lean, 'card_holds'). Laid BY PROGRAM, IN A SANDBOX (cutbox-door.mjs). By AI agents, Wed Nov 11 2026. No macro, syntax, notation, axiom, sorry.
-/
import Derived.Test.YtahdeighocmijaaGreatDoorRows
import GoSem.ClaimSeven
namespace Go.Proofs.YtahdeighocmijaaGreatDoor
namespace Rows

/-- THE TIED CARD OF 'fettlelaw13.LockEpochs'. -/
def lockEpochsCard : Claim7 := { stood := { row := lockEpochsRow, standIns := [], harness := (true, "f789f19792eed9d302480a79341284783ccacc886a25ed389e87fe19c7559849"), looks := false }, kinds := [], alts := [], laidByText := true, laidKinds := [.data, .data, .data], laidTests := true, laidLooks := .later }
def LockEpochsCardSaid : Prop := Claim7.holds Tryz.pinned (.plain (OpenSpec.ofChange lockEpochsSpec)) lockEpochsCard

/-- THE TIED CARD OF 'fettlelaw13.LockLost'. -/
def lockLostCard : Claim7 := { stood := { row := lockLostRow, standIns := [], harness := (true, "f789f19792eed9d302480a79341284783ccacc886a25ed389e87fe19c7559849"), looks := false }, kinds := [], alts := [], laidByText := true, laidKinds := [.data, .data, .data], laidTests := true, laidLooks := .later }
def LockLostCardSaid : Prop := Claim7.holds Tryz.pinned (.plain (OpenSpec.ofChange lockLostSpec)) lockLostCard

/-- THE TIED CARD OF 'fettlelaw13.LockOne'. -/
def lockOneCard : Claim7 := { stood := { row := lockOneRow, standIns := [], harness := (true, "f789f19792eed9d302480a79341284783ccacc886a25ed389e87fe19c7559849"), looks := false }, kinds := [], alts := [], laidByText := true, laidKinds := [.data, .data, .data], laidTests := true, laidLooks := .later }
def LockOneCardSaid : Prop := Claim7.holds Tryz.pinned (.plain (OpenSpec.ofChange lockOneSpec)) lockOneCard

/-- THE SECOND FORM's CARD OF 'fettlelaw13.LockEpochs'. -/
def lockEpochsUptoCard : Claim7 := { stood := { row := lockEpochsUptoRow, standIns := [], harness := (true, "f789f19792eed9d302480a79341284783ccacc886a25ed389e87fe19c7559849"), looks := false }, kinds := [], alts := [], laidByText := true, laidKinds := [.data, .data, .data], laidTests := true, laidLooks := .later }
def LockEpochsUptoCardSaid : Prop := Claim7.holds Tryz.pinned (.plain (OpenSpec.upto lockEpochsSpec)) lockEpochsUptoCard

/-- THE SECOND FORM's CARD OF 'fettlelaw13.LockLost'. -/
def lockLostUptoCard : Claim7 := { stood := { row := lockLostUptoRow, standIns := [], harness := (true, "f789f19792eed9d302480a79341284783ccacc886a25ed389e87fe19c7559849"), looks := false }, kinds := [], alts := [], laidByText := true, laidKinds := [.data, .data, .data], laidTests := true, laidLooks := .later }
def LockLostUptoCardSaid : Prop := Claim7.holds Tryz.pinned (.plain (OpenSpec.upto lockLostSpec)) lockLostUptoCard

/-- THE SECOND FORM's CARD OF 'fettlelaw13.LockOne'. -/
def lockOneUptoCard : Claim7 := { stood := { row := lockOneUptoRow, standIns := [], harness := (true, "f789f19792eed9d302480a79341284783ccacc886a25ed389e87fe19c7559849"), looks := false }, kinds := [], alts := [], laidByText := true, laidKinds := [.data, .data, .data], laidTests := true, laidLooks := .later }
def LockOneUptoCardSaid : Prop := Claim7.holds Tryz.pinned (.plain (OpenSpec.upto lockOneSpec)) lockOneUptoCard
end Rows
end Go.Proofs.YtahdeighocmijaaGreatDoor

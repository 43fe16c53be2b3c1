/-
  DERIVED. GIVEN WITH THE SEED: THE CARDS: each row of YtkbgedaogfcdnaaDoorRows.lean that lists a variable, with what it lists TIED to the program's text (the seventh form; the later family's looks); each row that meets fmt, with fmt's text TOLD by the authors' own Lean function (tested against real Go, not proved from fmt's source: count such statements apart). THE CARD IS WHAT COUNTS. Prove the row's statement (the work); the ties are given (YtkbgedaogfcdnaaDoorTie.lean); close each card by the builder's one call (the guide's Derived/Test/ToyasCard.lean, 'card_holds'). Laid BY PROGRAM, IN A SANDBOX (cutbox-door.mjs). By AI agents, Wed Nov 11 2026. No macro, syntax, notation, axiom, sorry.
-/
import Derived.Test.YtkbgedaogfcdnaaDoorRows
import GoSem.ClaimSeven
namespace Go.Proofs.YtkbgedaogfcdnaaDoor
namespace Rows

/-- THE TIED CARD OF 'fettlelaw27.ReptTolds'. -/
def reptToldsCard : Claim7 := { stood := { row := reptToldsRow, standIns := [], harness := (true, "eba398eb1d3944bac42e2228db37e219a74c1be74a485eec1d49286ec94182fc"), looks := true }, kinds := [], alts := [], laidByText := true, laidKinds := [.data, .data, .data, .data, .sentinel, .sentinel, .pinned], laidTests := true, laidLooks := .later }
def ReptToldsCardSaid : Prop := Claim7.holds Tryd.pinned (.plain (OpenSpec.ofChange reptToldsSpec)) reptToldsCard

/-- THE TIED CARD OF 'fettlelaw27.ReptBack'. -/
def reptBackCard : Claim7 := { stood := { row := reptBackRow, standIns := [], harness := (true, "eba398eb1d3944bac42e2228db37e219a74c1be74a485eec1d49286ec94182fc"), looks := true }, kinds := [], alts := [], laidByText := true, laidKinds := [.data, .data, .data, .data, .sentinel, .sentinel, .pinned], laidTests := true, laidLooks := .later }
def ReptBackCardSaid : Prop := Claim7.holds Tryd.pinned (.plain (OpenSpec.ofChange reptBackSpec)) reptBackCard

/-- THE TIED CARD OF 'fettlelaw27.ReptTells'. -/
def reptTellsCard : Claim7 := { stood := { row := reptTellsRow, standIns := [], harness := (true, "eba398eb1d3944bac42e2228db37e219a74c1be74a485eec1d49286ec94182fc"), looks := true }, kinds := [], alts := [], laidByText := true, laidKinds := [.data, .data, .data, .data, .sentinel, .sentinel, .pinned], laidTests := true, laidLooks := .later }
def ReptTellsCardSaid : Prop := Claim7.holds Tryd.pinned (.plain (OpenSpec.ofChange reptTellsSpec)) reptTellsCard

/-- THE TIED CARD OF 'fettlelaw27.ReptForms'. -/
def reptFormsCard : Claim7 := { stood := { row := reptFormsRow, standIns := [], harness := (true, "eba398eb1d3944bac42e2228db37e219a74c1be74a485eec1d49286ec94182fc"), looks := true }, kinds := [], alts := [], laidByText := true, laidKinds := [.data, .data, .data, .data, .sentinel, .sentinel, .pinned], laidTests := true, laidLooks := .later }
def ReptFormsCardSaid : Prop := Claim7.holds Tryd.pinned (.plain (OpenSpec.ofChange reptFormsSpec)) reptFormsCard

/-- THE SECOND FORM's CARD OF 'fettlelaw27.ReptTolds'. -/
def reptToldsUptoCard : Claim7 := { stood := { row := reptToldsUptoRow, standIns := [], harness := (true, "eba398eb1d3944bac42e2228db37e219a74c1be74a485eec1d49286ec94182fc"), looks := true }, kinds := [], alts := [], laidByText := true, laidKinds := [.data, .data, .data, .data, .sentinel, .sentinel, .pinned], laidTests := true, laidLooks := .later }
def ReptToldsUptoCardSaid : Prop := Claim7.holds Tryd.pinned (.plain (OpenSpec.upto reptToldsSpec)) reptToldsUptoCard

/-- THE SECOND FORM's CARD OF 'fettlelaw27.ReptBack'. -/
def reptBackUptoCard : Claim7 := { stood := { row := reptBackUptoRow, standIns := [], harness := (true, "eba398eb1d3944bac42e2228db37e219a74c1be74a485eec1d49286ec94182fc"), looks := true }, kinds := [], alts := [], laidByText := true, laidKinds := [.data, .data, .data, .data, .sentinel, .sentinel, .pinned], laidTests := true, laidLooks := .later }
def ReptBackUptoCardSaid : Prop := Claim7.holds Tryd.pinned (.plain (OpenSpec.upto reptBackSpec)) reptBackUptoCard

/-- THE SECOND FORM's CARD OF 'fettlelaw27.ReptTells'. -/
def reptTellsUptoCard : Claim7 := { stood := { row := reptTellsUptoRow, standIns := [], harness := (true, "eba398eb1d3944bac42e2228db37e219a74c1be74a485eec1d49286ec94182fc"), looks := true }, kinds := [], alts := [], laidByText := true, laidKinds := [.data, .data, .data, .data, .sentinel, .sentinel, .pinned], laidTests := true, laidLooks := .later }
def ReptTellsUptoCardSaid : Prop := Claim7.holds Tryd.pinned (.plain (OpenSpec.upto reptTellsSpec)) reptTellsUptoCard

/-- THE SECOND FORM's CARD OF 'fettlelaw27.ReptForms'. -/
def reptFormsUptoCard : Claim7 := { stood := { row := reptFormsUptoRow, standIns := [], harness := (true, "eba398eb1d3944bac42e2228db37e219a74c1be74a485eec1d49286ec94182fc"), looks := true }, kinds := [], alts := [], laidByText := true, laidKinds := [.data, .data, .data, .data, .sentinel, .sentinel, .pinned], laidTests := true, laidLooks := .later }
def ReptFormsUptoCardSaid : Prop := Claim7.holds Tryd.pinned (.plain (OpenSpec.upto reptFormsSpec)) reptFormsUptoCard
end Rows
end Go.Proofs.YtkbgedaogfcdnaaDoor

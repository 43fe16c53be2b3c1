/-
  DERIVED. GIVEN WITH THE SEED: THE CARDS: each row of YtahdeighocmijaaDoorRows.lean that lists a variable, with what it lists TIED to the program's text (the seventh form; the later family's looks); each row that meets fmt, with fmt's text TOLD by the authors' own Lean function (tested against real Go, not proved from fmt's source: count such statements apart). THE CARD IS WHAT COUNTS. Prove the row's statement (the work); the ties are given (YtahdeighocmijaaDoorTie.lean); close each card by the builder's one call (the guide's Derived/Test/ToyasCard.lean, 'card_holds'). Laid BY PROGRAM, IN A SANDBOX (cutbox-door.mjs). By AI agents, Wed Nov 11 2026. No macro, syntax, notation, axiom, sorry.
-/
import Derived.Test.YtahdeighocmijaaDoorRows
import GoSem.ClaimSeven
namespace Go.Proofs.YtahdeighocmijaaDoor
namespace Rows

/-- THE TIED CARD OF 'fettlelaw13.LockOwns'. -/
def lockOwnsCard : Claim7 := { stood := { row := lockOwnsRow, standIns := [], harness := (true, "5282b8e16ae0496d05d04cf04a1e8377f7e4d2619f0668449691d5b7d68f2601"), looks := false }, kinds := [], alts := [], laidByText := true, laidKinds := [.data, .data, .data], laidTests := true, laidLooks := .later }
def LockOwnsCardSaid : Prop := Claim7.holds Tryd.pinned (.plain (OpenSpec.ofChange lockOwnsSpec)) lockOwnsCard

/-- THE TIED CARD OF 'fettlelaw13.LockMine'. -/
def lockMineCard : Claim7 := { stood := { row := lockMineRow, standIns := [], harness := (true, "5282b8e16ae0496d05d04cf04a1e8377f7e4d2619f0668449691d5b7d68f2601"), looks := false }, kinds := [], alts := [], laidByText := true, laidKinds := [.data, .data, .data], laidTests := true, laidLooks := .later }
def LockMineCardSaid : Prop := Claim7.holds Tryd.pinned (.plain (OpenSpec.ofChange lockMineSpec)) lockMineCard

/-- THE TIED CARD OF 'fettlelaw13.LockLooks'. -/
def lockLooksCard : Claim7 := { stood := { row := lockLooksRow, standIns := [], harness := (true, "5282b8e16ae0496d05d04cf04a1e8377f7e4d2619f0668449691d5b7d68f2601"), looks := false }, kinds := [], alts := [], laidByText := true, laidKinds := [.data, .data, .data], laidTests := true, laidLooks := .later }
def LockLooksCardSaid : Prop := Claim7.holds Tryd.pinned (.plain (OpenSpec.ofChange lockLooksSpec)) lockLooksCard

/-- THE TIED CARD OF 'fettlelaw13.LockSteps'. -/
def lockStepsCard : Claim7 := { stood := { row := lockStepsRow, standIns := [], harness := (true, "5282b8e16ae0496d05d04cf04a1e8377f7e4d2619f0668449691d5b7d68f2601"), looks := false }, kinds := [], alts := [], laidByText := true, laidKinds := [.data, .data, .data], laidTests := true, laidLooks := .later }
def LockStepsCardSaid : Prop := Claim7.holds Tryd.pinned (.plain (OpenSpec.ofChange lockStepsSpec)) lockStepsCard

/-- THE SECOND FORM's CARD OF 'fettlelaw13.LockOwns'. -/
def lockOwnsUptoCard : Claim7 := { stood := { row := lockOwnsUptoRow, standIns := [], harness := (true, "5282b8e16ae0496d05d04cf04a1e8377f7e4d2619f0668449691d5b7d68f2601"), looks := false }, kinds := [], alts := [], laidByText := true, laidKinds := [.data, .data, .data], laidTests := true, laidLooks := .later }
def LockOwnsUptoCardSaid : Prop := Claim7.holds Tryd.pinned (.plain (OpenSpec.upto lockOwnsSpec)) lockOwnsUptoCard

/-- THE SECOND FORM's CARD OF 'fettlelaw13.LockMine'. -/
def lockMineUptoCard : Claim7 := { stood := { row := lockMineUptoRow, standIns := [], harness := (true, "5282b8e16ae0496d05d04cf04a1e8377f7e4d2619f0668449691d5b7d68f2601"), looks := false }, kinds := [], alts := [], laidByText := true, laidKinds := [.data, .data, .data], laidTests := true, laidLooks := .later }
def LockMineUptoCardSaid : Prop := Claim7.holds Tryd.pinned (.plain (OpenSpec.upto lockMineSpec)) lockMineUptoCard

/-- THE SECOND FORM's CARD OF 'fettlelaw13.LockLooks'. -/
def lockLooksUptoCard : Claim7 := { stood := { row := lockLooksUptoRow, standIns := [], harness := (true, "5282b8e16ae0496d05d04cf04a1e8377f7e4d2619f0668449691d5b7d68f2601"), looks := false }, kinds := [], alts := [], laidByText := true, laidKinds := [.data, .data, .data], laidTests := true, laidLooks := .later }
def LockLooksUptoCardSaid : Prop := Claim7.holds Tryd.pinned (.plain (OpenSpec.upto lockLooksSpec)) lockLooksUptoCard

/-- THE SECOND FORM's CARD OF 'fettlelaw13.LockSteps'. -/
def lockStepsUptoCard : Claim7 := { stood := { row := lockStepsUptoRow, standIns := [], harness := (true, "5282b8e16ae0496d05d04cf04a1e8377f7e4d2619f0668449691d5b7d68f2601"), looks := false }, kinds := [], alts := [], laidByText := true, laidKinds := [.data, .data, .data], laidTests := true, laidLooks := .later }
def LockStepsUptoCardSaid : Prop := Claim7.holds Tryd.pinned (.plain (OpenSpec.upto lockStepsSpec)) lockStepsUptoCard
end Rows
end Go.Proofs.YtahdeighocmijaaDoor

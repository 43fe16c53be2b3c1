/-
  No cell of these rows narrows 'for every input' (looked for: loops, veiled, ifaces, maps, wideKeys, modest, calm, conditions, laid).
  DERIVED. THE GIVEN ROWS OF THIS SEAT. 9 by the template 'for every input the law returns true; each argument reads behind the call as it read before'; 0 by the template 'total and deterministic' (their statements: YtebplbnkjpffpaaTotals.lean).
  GIVEN WITH THE SEED: the statements are not yours to turn. If you find one false, say at which input.
  Laid BY PROGRAM, IN A SANDBOX (cutbox-rows.mjs): the forced cells as the released guide's own fill.sh prints them over the translation cfad7d8e7e476904… (all of the seat's roots in one cut). By AI agents, Wed Nov 11 2026. No macro, syntax, notation, axiom, sorry.
-/
import Derived.Test.YtebplbnkjpffpaaChecked
import GoSem.Claim
import GoSem.ClaimJoined
import GoSem.ClaimMapViews
import Derived.JoinedTies
import Derived.KernelRfl
namespace Go.Proofs.Ytebplbnkjpffpaa
/- THE CELL 'sum', in the pinned program and in every row, IS THE sha256 OF THE DUMP (.gsa) THAT YtebplbnkjpffpaaProg.lean LOADS. Nothing in Lean hashes anything: it is a label: what it is worth is what the hold of that sum in a sandbox is worth. -/
noncomputable def Try.pinned : Pinned := { name := "ytebplbnkjpffpaa", sum := "cfad7d8e7e47690426ea067f5eb1eff64d5791564cac1b86e3df83c8431f7c68", checked := Try.checked }
namespace Rows
def none {H : Type} : Left H := { results := [], args := [] }

/-- 'fettlelaw14.LogsAgain': WHATEVER THE INPUT: true; the input reads as it did. -/
def logsAgainSpec : ChangeSpec := { name := "logsAgain", fn := fun _ => fun
  | [d1, d2, d3] => { results := [.lit (.bool true)], args := [d1, d2, d3] }
  | _ => none }
def logsAgainRow : OpenClaim := { program := "ytebplbnkjpffpaa", sum := "cfad7d8e7e47690426ea067f5eb1eff64d5791564cac1b86e3df83c8431f7c68", func := "fettle/fettlelaw14.LogsAgain", spec := "logsAgain", inPlace := ["internal/bytealg.IndexByteString", "internal/bytealg.IndexString"], unfollowed := true, recurses := true, named := ["internal/bytealg.MaxLen"], apart := false }
def LogsAgainSaid : Prop := logsAgainRow.holds Try.pinned (OpenSpec.ofChange logsAgainSpec)

/-- ITS FALSE NEIGHBOUR: 'it returns false'. Refute it at one input. -/
def logsAgainWrong : ChangeSpec := { name := "logsAgain", fn := fun _ => fun
  | [d1, d2, d3] => { results := [.lit (.bool false)], args := [d1, d2, d3] }
  | _ => none }
def LogsAgainWrongFalsely : Prop := logsAgainRow.holds Try.pinned (OpenSpec.ofChange logsAgainWrong)

/-- 'fettlelaw14.LogsSteps': WHATEVER THE INPUT: true; the input reads as it did. -/
def logsStepsSpec : ChangeSpec := { name := "logsSteps", fn := fun _ => fun
  | [d1, d2] => { results := [.lit (.bool true)], args := [d1, d2] }
  | _ => none }
def logsStepsRow : OpenClaim := { program := "ytebplbnkjpffpaa", sum := "cfad7d8e7e47690426ea067f5eb1eff64d5791564cac1b86e3df83c8431f7c68", func := "fettle/fettlelaw14.LogsSteps", spec := "logsSteps", inPlace := ["internal/bytealg.IndexByteString", "internal/bytealg.IndexString"], unfollowed := true, recurses := true, named := ["internal/bytealg.MaxLen"], apart := false }
def LogsStepsSaid : Prop := logsStepsRow.holds Try.pinned (OpenSpec.ofChange logsStepsSpec)

/-- ITS FALSE NEIGHBOUR: 'it returns false'. Refute it at one input. -/
def logsStepsWrong : ChangeSpec := { name := "logsSteps", fn := fun _ => fun
  | [d1, d2] => { results := [.lit (.bool false)], args := [d1, d2] }
  | _ => none }
def LogsStepsWrongFalsely : Prop := logsStepsRow.holds Try.pinned (OpenSpec.ofChange logsStepsWrong)

/-- 'fettlelaw14.LogsTells': WHATEVER THE INPUT: true; the input reads as it did. -/
def logsTellsSpec : ChangeSpec := { name := "logsTells", fn := fun _ => fun
  | [d1, d2, d3] => { results := [.lit (.bool true)], args := [d1, d2, d3] }
  | _ => none }
def logsTellsRow : OpenClaim := { program := "ytebplbnkjpffpaa", sum := "cfad7d8e7e47690426ea067f5eb1eff64d5791564cac1b86e3df83c8431f7c68", func := "fettle/fettlelaw14.LogsTells", spec := "logsTells", inPlace := ["internal/bytealg.IndexByteString", "internal/bytealg.IndexString"], unfollowed := true, recurses := true, named := ["internal/bytealg.MaxLen"], apart := false }
def LogsTellsSaid : Prop := logsTellsRow.holds Try.pinned (OpenSpec.ofChange logsTellsSpec)

/-- ITS FALSE NEIGHBOUR: 'it returns false'. Refute it at one input. -/
def logsTellsWrong : ChangeSpec := { name := "logsTells", fn := fun _ => fun
  | [d1, d2, d3] => { results := [.lit (.bool false)], args := [d1, d2, d3] }
  | _ => none }
def LogsTellsWrongFalsely : Prop := logsTellsRow.holds Try.pinned (OpenSpec.ofChange logsTellsWrong)

/-- 'fettlelaw9.SimfOwn': WHATEVER THE INPUT: true; the input reads as it did. -/
def simfOwnSpec : ChangeSpec := { name := "simfOwn", fn := fun _ => fun
  | [d] => { results := [.lit (.bool true)], args := [d] }
  | _ => none }
def simfOwnRow : OpenClaim := { program := "ytebplbnkjpffpaa", sum := "cfad7d8e7e47690426ea067f5eb1eff64d5791564cac1b86e3df83c8431f7c68", func := "fettle/fettlelaw9.SimfOwn", spec := "simfOwn", inPlace := ["internal/bytealg.IndexByteString", "internal/bytealg.IndexString"], unfollowed := true, recurses := true, named := ["internal/bytealg.MaxLen"], apart := false }
def SimfOwnSaid : Prop := simfOwnRow.holds Try.pinned (OpenSpec.ofChange simfOwnSpec)

/-- ITS FALSE NEIGHBOUR: 'it returns false'. Refute it at one input. -/
def simfOwnWrong : ChangeSpec := { name := "simfOwn", fn := fun _ => fun
  | [d] => { results := [.lit (.bool false)], args := [d] }
  | _ => none }
def SimfOwnWrongFalsely : Prop := simfOwnRow.holds Try.pinned (OpenSpec.ofChange simfOwnWrong)

/-- 'fettlelaw9.SimfRoom': WHATEVER THE INPUT: true; the input reads as it did. -/
def simfRoomSpec : ChangeSpec := { name := "simfRoom", fn := fun _ => fun
  | [d1, d2, d3, d4] => { results := [.lit (.bool true)], args := [d1, d2, d3, d4] }
  | _ => none }
def simfRoomRow : OpenClaim := { program := "ytebplbnkjpffpaa", sum := "cfad7d8e7e47690426ea067f5eb1eff64d5791564cac1b86e3df83c8431f7c68", func := "fettle/fettlelaw9.SimfRoom", spec := "simfRoom", inPlace := ["internal/bytealg.IndexByteString", "internal/bytealg.IndexString"], unfollowed := true, recurses := true, named := ["internal/bytealg.MaxLen"], apart := false }
def SimfRoomSaid : Prop := simfRoomRow.holds Try.pinned (OpenSpec.ofChange simfRoomSpec)

/-- ITS FALSE NEIGHBOUR: 'it returns false'. Refute it at one input. -/
def simfRoomWrong : ChangeSpec := { name := "simfRoom", fn := fun _ => fun
  | [d1, d2, d3, d4] => { results := [.lit (.bool false)], args := [d1, d2, d3, d4] }
  | _ => none }
def SimfRoomWrongFalsely : Prop := simfRoomRow.holds Try.pinned (OpenSpec.ofChange simfRoomWrong)

/-- 'fettlelaw9.SimfOrder': WHATEVER THE INPUT: true; the input reads as it did. -/
def simfOrderSpec : ChangeSpec := { name := "simfOrder", fn := fun _ => fun
  | [d] => { results := [.lit (.bool true)], args := [d] }
  | _ => none }
def simfOrderRow : OpenClaim := { program := "ytebplbnkjpffpaa", sum := "cfad7d8e7e47690426ea067f5eb1eff64d5791564cac1b86e3df83c8431f7c68", func := "fettle/fettlelaw9.SimfOrder", spec := "simfOrder", inPlace := ["internal/bytealg.IndexByteString", "internal/bytealg.IndexString"], unfollowed := true, recurses := true, named := ["internal/bytealg.MaxLen"], apart := false }
def SimfOrderSaid : Prop := simfOrderRow.holds Try.pinned (OpenSpec.ofChange simfOrderSpec)

/-- ITS FALSE NEIGHBOUR: 'it returns false'. Refute it at one input. -/
def simfOrderWrong : ChangeSpec := { name := "simfOrder", fn := fun _ => fun
  | [d] => { results := [.lit (.bool false)], args := [d] }
  | _ => none }
def SimfOrderWrongFalsely : Prop := simfOrderRow.holds Try.pinned (OpenSpec.ofChange simfOrderWrong)

/-- 'fettlelaw9.SimfCut': WHATEVER THE INPUT: true; the input reads as it did. -/
def simfCutSpec : ChangeSpec := { name := "simfCut", fn := fun _ => fun
  | [d1, d2, d3] => { results := [.lit (.bool true)], args := [d1, d2, d3] }
  | _ => none }
def simfCutRow : OpenClaim := { program := "ytebplbnkjpffpaa", sum := "cfad7d8e7e47690426ea067f5eb1eff64d5791564cac1b86e3df83c8431f7c68", func := "fettle/fettlelaw9.SimfCut", spec := "simfCut", inPlace := ["internal/bytealg.IndexByteString", "internal/bytealg.IndexString"], unfollowed := true, recurses := true, named := ["internal/bytealg.MaxLen"], apart := false }
def SimfCutSaid : Prop := simfCutRow.holds Try.pinned (OpenSpec.ofChange simfCutSpec)

/-- ITS FALSE NEIGHBOUR: 'it returns false'. Refute it at one input. -/
def simfCutWrong : ChangeSpec := { name := "simfCut", fn := fun _ => fun
  | [d1, d2, d3] => { results := [.lit (.bool false)], args := [d1, d2, d3] }
  | _ => none }
def SimfCutWrongFalsely : Prop := simfCutRow.holds Try.pinned (OpenSpec.ofChange simfCutWrong)

/-- 'fettlelaw9.SimfPlays': WHATEVER THE INPUT: true; the input reads as it did. -/
def simfPlaysSpec : ChangeSpec := { name := "simfPlays", fn := fun _ => fun
  | [d1, d2, d3] => { results := [.lit (.bool true)], args := [d1, d2, d3] }
  | _ => none }
def simfPlaysRow : OpenClaim := { program := "ytebplbnkjpffpaa", sum := "cfad7d8e7e47690426ea067f5eb1eff64d5791564cac1b86e3df83c8431f7c68", func := "fettle/fettlelaw9.SimfPlays", spec := "simfPlays", inPlace := ["internal/bytealg.IndexByteString", "internal/bytealg.IndexString"], unfollowed := true, recurses := true, named := ["internal/bytealg.MaxLen"], apart := false }
def SimfPlaysSaid : Prop := simfPlaysRow.holds Try.pinned (OpenSpec.ofChange simfPlaysSpec)

/-- ITS FALSE NEIGHBOUR: 'it returns false'. Refute it at one input. -/
def simfPlaysWrong : ChangeSpec := { name := "simfPlays", fn := fun _ => fun
  | [d1, d2, d3] => { results := [.lit (.bool false)], args := [d1, d2, d3] }
  | _ => none }
def SimfPlaysWrongFalsely : Prop := simfPlaysRow.holds Try.pinned (OpenSpec.ofChange simfPlaysWrong)

/-- 'fettlelaw9.SimfStamps': WHATEVER THE INPUT: true; the input reads as it did. -/
def simfStampsSpec : ChangeSpec := { name := "simfStamps", fn := fun _ => fun
  | [d] => { results := [.lit (.bool true)], args := [d] }
  | _ => none }
def simfStampsRow : OpenClaim := { program := "ytebplbnkjpffpaa", sum := "cfad7d8e7e47690426ea067f5eb1eff64d5791564cac1b86e3df83c8431f7c68", func := "fettle/fettlelaw9.SimfStamps", spec := "simfStamps", inPlace := ["internal/bytealg.IndexByteString", "internal/bytealg.IndexString"], unfollowed := true, recurses := true, named := ["internal/bytealg.MaxLen"], apart := false }
def SimfStampsSaid : Prop := simfStampsRow.holds Try.pinned (OpenSpec.ofChange simfStampsSpec)

/-- ITS FALSE NEIGHBOUR: 'it returns false'. Refute it at one input. -/
def simfStampsWrong : ChangeSpec := { name := "simfStamps", fn := fun _ => fun
  | [d] => { results := [.lit (.bool false)], args := [d] }
  | _ => none }
def SimfStampsWrongFalsely : Prop := simfStampsRow.holds Try.pinned (OpenSpec.ofChange simfStampsWrong)

/- THE SECOND FORM. 'bulk': how many values and letters a reading holds, each counted each time it is reached (what is shared counts as often as it is met; a slice's spare places count too). A statement '..UptoSaid' is the law's where the arguments, and the package variables that the reading takes, are together of bulk at most 1048576: NARROWER than '..Said'. Prove '..Said' where nothing that the law and all that it calls make is longer than what came in: it says more and counts as full. Else prove '..UptoSaid'. A law counts once. -/
mutual
def uptoBulk {H : Type} : DataW H → Nat
  | .lit (.string bytes) => bytes.length + 1
  | .lit _ => 1
  | .nil => 1
  | .ptr d => uptoBulk d + 1
  | .slice elems spare => uptoBulkAll elems + uptoBulkAll spare + 1
  | .agg parts => uptoBulkAll parts + 1
  | .iface _ d => uptoBulk d + 1
  | .map entries => uptoBulkEntries entries + 1
  | .held _ => 1
def uptoBulkAll {H : Type} : List (DataW H) → Nat
  | [] => 0
  | d :: r => uptoBulk d + uptoBulkAll r
def uptoBulkEntries {H : Type} : List (Lit × DataW H) → Nat
  | [] => 0
  | x :: r => uptoBulkEntry x + uptoBulkEntries r
def uptoBulkEntry {H : Type} : Lit × DataW H → Nat
  | (.string bytes, d) => bytes.length + uptoBulk d + 1
  | (_, d) => uptoBulk d + 1
 end
def uptoSmall : (H : Type) → List (DataW H) → Bool := fun _ ds => decide (uptoBulkAll ds ≤ 1048576)
def OpenSpec.upto (s : _root_.Go.ChangeSpec) : _root_.Go.OpenSpec := { _root_.Go.OpenSpec.ofChange s with cond := some uptoSmall }

/-- 'fettlelaw14.LogsAgain', WHERE WHAT IT READS IS OF BULK AT MOST 1048576: true; the input reads as it did. -/
def logsAgainUptoRow : OpenClaim := { program := "ytebplbnkjpffpaa", sum := "cfad7d8e7e47690426ea067f5eb1eff64d5791564cac1b86e3df83c8431f7c68", func := "fettle/fettlelaw14.LogsAgain", spec := "logsAgain", inPlace := ["internal/bytealg.IndexByteString", "internal/bytealg.IndexString"], unfollowed := true, recurses := true, named := ["internal/bytealg.MaxLen"], apart := false, narrowed := true }
def LogsAgainUptoSaid : Prop := logsAgainUptoRow.holds Try.pinned (OpenSpec.upto logsAgainSpec)

/-- 'fettlelaw14.LogsSteps', WHERE WHAT IT READS IS OF BULK AT MOST 1048576: true; the input reads as it did. -/
def logsStepsUptoRow : OpenClaim := { program := "ytebplbnkjpffpaa", sum := "cfad7d8e7e47690426ea067f5eb1eff64d5791564cac1b86e3df83c8431f7c68", func := "fettle/fettlelaw14.LogsSteps", spec := "logsSteps", inPlace := ["internal/bytealg.IndexByteString", "internal/bytealg.IndexString"], unfollowed := true, recurses := true, named := ["internal/bytealg.MaxLen"], apart := false, narrowed := true }
def LogsStepsUptoSaid : Prop := logsStepsUptoRow.holds Try.pinned (OpenSpec.upto logsStepsSpec)

/-- 'fettlelaw14.LogsTells', WHERE WHAT IT READS IS OF BULK AT MOST 1048576: true; the input reads as it did. -/
def logsTellsUptoRow : OpenClaim := { program := "ytebplbnkjpffpaa", sum := "cfad7d8e7e47690426ea067f5eb1eff64d5791564cac1b86e3df83c8431f7c68", func := "fettle/fettlelaw14.LogsTells", spec := "logsTells", inPlace := ["internal/bytealg.IndexByteString", "internal/bytealg.IndexString"], unfollowed := true, recurses := true, named := ["internal/bytealg.MaxLen"], apart := false, narrowed := true }
def LogsTellsUptoSaid : Prop := logsTellsUptoRow.holds Try.pinned (OpenSpec.upto logsTellsSpec)

/-- 'fettlelaw9.SimfOwn', WHERE WHAT IT READS IS OF BULK AT MOST 1048576: true; the input reads as it did. -/
def simfOwnUptoRow : OpenClaim := { program := "ytebplbnkjpffpaa", sum := "cfad7d8e7e47690426ea067f5eb1eff64d5791564cac1b86e3df83c8431f7c68", func := "fettle/fettlelaw9.SimfOwn", spec := "simfOwn", inPlace := ["internal/bytealg.IndexByteString", "internal/bytealg.IndexString"], unfollowed := true, recurses := true, named := ["internal/bytealg.MaxLen"], apart := false, narrowed := true }
def SimfOwnUptoSaid : Prop := simfOwnUptoRow.holds Try.pinned (OpenSpec.upto simfOwnSpec)

/-- 'fettlelaw9.SimfRoom', WHERE WHAT IT READS IS OF BULK AT MOST 1048576: true; the input reads as it did. -/
def simfRoomUptoRow : OpenClaim := { program := "ytebplbnkjpffpaa", sum := "cfad7d8e7e47690426ea067f5eb1eff64d5791564cac1b86e3df83c8431f7c68", func := "fettle/fettlelaw9.SimfRoom", spec := "simfRoom", inPlace := ["internal/bytealg.IndexByteString", "internal/bytealg.IndexString"], unfollowed := true, recurses := true, named := ["internal/bytealg.MaxLen"], apart := false, narrowed := true }
def SimfRoomUptoSaid : Prop := simfRoomUptoRow.holds Try.pinned (OpenSpec.upto simfRoomSpec)

/-- 'fettlelaw9.SimfOrder', WHERE WHAT IT READS IS OF BULK AT MOST 1048576: true; the input reads as it did. -/
def simfOrderUptoRow : OpenClaim := { program := "ytebplbnkjpffpaa", sum := "cfad7d8e7e47690426ea067f5eb1eff64d5791564cac1b86e3df83c8431f7c68", func := "fettle/fettlelaw9.SimfOrder", spec := "simfOrder", inPlace := ["internal/bytealg.IndexByteString", "internal/bytealg.IndexString"], unfollowed := true, recurses := true, named := ["internal/bytealg.MaxLen"], apart := false, narrowed := true }
def SimfOrderUptoSaid : Prop := simfOrderUptoRow.holds Try.pinned (OpenSpec.upto simfOrderSpec)

/-- 'fettlelaw9.SimfCut', WHERE WHAT IT READS IS OF BULK AT MOST 1048576: true; the input reads as it did. -/
def simfCutUptoRow : OpenClaim := { program := "ytebplbnkjpffpaa", sum := "cfad7d8e7e47690426ea067f5eb1eff64d5791564cac1b86e3df83c8431f7c68", func := "fettle/fettlelaw9.SimfCut", spec := "simfCut", inPlace := ["internal/bytealg.IndexByteString", "internal/bytealg.IndexString"], unfollowed := true, recurses := true, named := ["internal/bytealg.MaxLen"], apart := false, narrowed := true }
def SimfCutUptoSaid : Prop := simfCutUptoRow.holds Try.pinned (OpenSpec.upto simfCutSpec)

/-- 'fettlelaw9.SimfPlays', WHERE WHAT IT READS IS OF BULK AT MOST 1048576: true; the input reads as it did. -/
def simfPlaysUptoRow : OpenClaim := { program := "ytebplbnkjpffpaa", sum := "cfad7d8e7e47690426ea067f5eb1eff64d5791564cac1b86e3df83c8431f7c68", func := "fettle/fettlelaw9.SimfPlays", spec := "simfPlays", inPlace := ["internal/bytealg.IndexByteString", "internal/bytealg.IndexString"], unfollowed := true, recurses := true, named := ["internal/bytealg.MaxLen"], apart := false, narrowed := true }
def SimfPlaysUptoSaid : Prop := simfPlaysUptoRow.holds Try.pinned (OpenSpec.upto simfPlaysSpec)

/-- 'fettlelaw9.SimfStamps', WHERE WHAT IT READS IS OF BULK AT MOST 1048576: true; the input reads as it did. -/
def simfStampsUptoRow : OpenClaim := { program := "ytebplbnkjpffpaa", sum := "cfad7d8e7e47690426ea067f5eb1eff64d5791564cac1b86e3df83c8431f7c68", func := "fettle/fettlelaw9.SimfStamps", spec := "simfStamps", inPlace := ["internal/bytealg.IndexByteString", "internal/bytealg.IndexString"], unfollowed := true, recurses := true, named := ["internal/bytealg.MaxLen"], apart := false, narrowed := true }
def SimfStampsUptoSaid : Prop := simfStampsUptoRow.holds Try.pinned (OpenSpec.upto simfStampsSpec)

end Rows
end Go.Proofs.Ytebplbnkjpffpaa

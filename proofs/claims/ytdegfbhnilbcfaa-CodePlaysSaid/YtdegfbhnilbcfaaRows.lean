/-
  No cell of these rows narrows 'for every input' (looked for: loops, veiled, ifaces, maps, wideKeys, modest, calm, conditions, laid).
  DERIVED. THE GIVEN ROWS OF THIS SEAT. 6 by the template 'for every input the law returns true; each argument reads behind the call as it read before'; 0 by the template 'total and deterministic' (their statements: YtdegfbhnilbcfaaTotals.lean).
  GIVEN WITH THE SEED: the statements are not yours to turn. If you find one false, say at which input.
  Laid BY PROGRAM, IN A SANDBOX (cutbox-rows.mjs): the forced cells as the released guide's own fill.sh prints them over the translation c4de5e69ac051814… (all of the seat's roots in one cut). By AI agents, Wed Nov 11 2026. No macro, syntax, notation, axiom, sorry.
-/
import Derived.Test.YtdegfbhnilbcfaaChecked
import GoSem.Claim
import GoSem.ClaimJoined
import GoSem.ClaimMapViews
import Derived.JoinedTies
import Derived.KernelRfl
namespace Go.Proofs.Ytdegfbhnilbcfaa
/- THE CELL 'sum', in the pinned program and in every row, IS THE sha256 OF THE DUMP (.gsa) THAT YtdegfbhnilbcfaaProg.lean LOADS. Nothing in Lean hashes anything: it is a label: what it is worth is what the hold of that sum in a sandbox is worth. -/
noncomputable def Try.pinned : Pinned := { name := "ytdegfbhnilbcfaa", sum := "c4de5e69ac0518141e7c7508ee6b7e15dd3aa9c6742a7d1ced59e88c184d8860", checked := Try.checked }
namespace Rows
def none {H : Type} : Left H := { results := [], args := [] }

/-- 'fettlelaw1.CrcsForms': WHATEVER THE INPUT: true; the input reads as it did. -/
def crcsFormsSpec : ChangeSpec := { name := "crcsForms", fn := fun _ => fun
  | [d] => { results := [.lit (.bool true)], args := [d] }
  | _ => none }
def crcsFormsRow : OpenClaim := { program := "ytdegfbhnilbcfaa", sum := "c4de5e69ac0518141e7c7508ee6b7e15dd3aa9c6742a7d1ced59e88c184d8860", func := "fettle/fettlelaw1.CrcsForms", spec := "crcsForms", apart := false }
def CrcsFormsSaid : Prop := crcsFormsRow.holds Try.pinned (OpenSpec.ofChange crcsFormsSpec)

/-- ITS FALSE NEIGHBOUR: 'it returns false'. Refute it at one input. -/
def crcsFormsWrong : ChangeSpec := { name := "crcsForms", fn := fun _ => fun
  | [d] => { results := [.lit (.bool false)], args := [d] }
  | _ => none }
def CrcsFormsWrongFalsely : Prop := crcsFormsRow.holds Try.pinned (OpenSpec.ofChange crcsFormsWrong)

/-- 'fettlelaw1.CrcsLinear': WHATEVER THE INPUT: true; the input reads as it did. -/
def crcsLinearSpec : ChangeSpec := { name := "crcsLinear", fn := fun _ => fun
  | [d1, d2, d3] => { results := [.lit (.bool true)], args := [d1, d2, d3] }
  | _ => none }
def crcsLinearRow : OpenClaim := { program := "ytdegfbhnilbcfaa", sum := "c4de5e69ac0518141e7c7508ee6b7e15dd3aa9c6742a7d1ced59e88c184d8860", func := "fettle/fettlelaw1.CrcsLinear", spec := "crcsLinear", apart := false }
def CrcsLinearSaid : Prop := crcsLinearRow.holds Try.pinned (OpenSpec.ofChange crcsLinearSpec)

/-- ITS FALSE NEIGHBOUR: 'it returns false'. Refute it at one input. -/
def crcsLinearWrong : ChangeSpec := { name := "crcsLinear", fn := fun _ => fun
  | [d1, d2, d3] => { results := [.lit (.bool false)], args := [d1, d2, d3] }
  | _ => none }
def CrcsLinearWrongFalsely : Prop := crcsLinearRow.holds Try.pinned (OpenSpec.ofChange crcsLinearWrong)

/-- 'fettlelaw1.CrcsTells': WHATEVER THE INPUT: true; the input reads as it did. -/
def crcsTellsSpec : ChangeSpec := { name := "crcsTells", fn := fun _ => fun
  | [d1, d2, d3] => { results := [.lit (.bool true)], args := [d1, d2, d3] }
  | _ => none }
def crcsTellsRow : OpenClaim := { program := "ytdegfbhnilbcfaa", sum := "c4de5e69ac0518141e7c7508ee6b7e15dd3aa9c6742a7d1ced59e88c184d8860", func := "fettle/fettlelaw1.CrcsTells", spec := "crcsTells", apart := false }
def CrcsTellsSaid : Prop := crcsTellsRow.holds Try.pinned (OpenSpec.ofChange crcsTellsSpec)

/-- ITS FALSE NEIGHBOUR: 'it returns false'. Refute it at one input. -/
def crcsTellsWrong : ChangeSpec := { name := "crcsTells", fn := fun _ => fun
  | [d1, d2, d3] => { results := [.lit (.bool false)], args := [d1, d2, d3] }
  | _ => none }
def CrcsTellsWrongFalsely : Prop := crcsTellsRow.holds Try.pinned (OpenSpec.ofChange crcsTellsWrong)

/-- 'fettlelaw2.CodeForms': WHATEVER THE INPUT: true; the input reads as it did. -/
def codeFormsSpec : ChangeSpec := { name := "codeForms", fn := fun _ => fun
  | [d] => { results := [.lit (.bool true)], args := [d] }
  | _ => none }
def codeFormsRow : OpenClaim := { program := "ytdegfbhnilbcfaa", sum := "c4de5e69ac0518141e7c7508ee6b7e15dd3aa9c6742a7d1ced59e88c184d8860", func := "fettle/fettlelaw2.CodeForms", spec := "codeForms", apart := false }
def CodeFormsSaid : Prop := codeFormsRow.holds Try.pinned (OpenSpec.ofChange codeFormsSpec)

/-- ITS FALSE NEIGHBOUR: 'it returns false'. Refute it at one input. -/
def codeFormsWrong : ChangeSpec := { name := "codeForms", fn := fun _ => fun
  | [d] => { results := [.lit (.bool false)], args := [d] }
  | _ => none }
def CodeFormsWrongFalsely : Prop := codeFormsRow.holds Try.pinned (OpenSpec.ofChange codeFormsWrong)

/-- 'fettlelaw2.CodeBack': WHATEVER THE INPUT: true; the input reads as it did. -/
def codeBackSpec : ChangeSpec := { name := "codeBack", fn := fun _ => fun
  | [d1, d2, d3] => { results := [.lit (.bool true)], args := [d1, d2, d3] }
  | _ => none }
def codeBackRow : OpenClaim := { program := "ytdegfbhnilbcfaa", sum := "c4de5e69ac0518141e7c7508ee6b7e15dd3aa9c6742a7d1ced59e88c184d8860", func := "fettle/fettlelaw2.CodeBack", spec := "codeBack", apart := false }
def CodeBackSaid : Prop := codeBackRow.holds Try.pinned (OpenSpec.ofChange codeBackSpec)

/-- ITS FALSE NEIGHBOUR: 'it returns false'. Refute it at one input. -/
def codeBackWrong : ChangeSpec := { name := "codeBack", fn := fun _ => fun
  | [d1, d2, d3] => { results := [.lit (.bool false)], args := [d1, d2, d3] }
  | _ => none }
def CodeBackWrongFalsely : Prop := codeBackRow.holds Try.pinned (OpenSpec.ofChange codeBackWrong)

/-- 'fettlelaw2.CodePlays': WHATEVER THE INPUT: true; the input reads as it did. -/
def codePlaysSpec : ChangeSpec := { name := "codePlays", fn := fun _ => fun
  | [d1, d2, d3, d4, d5, d6] => { results := [.lit (.bool true)], args := [d1, d2, d3, d4, d5, d6] }
  | _ => none }
def codePlaysRow : OpenClaim := { program := "ytdegfbhnilbcfaa", sum := "c4de5e69ac0518141e7c7508ee6b7e15dd3aa9c6742a7d1ced59e88c184d8860", func := "fettle/fettlelaw2.CodePlays", spec := "codePlays", apart := false }
def CodePlaysSaid : Prop := codePlaysRow.holds Try.pinned (OpenSpec.ofChange codePlaysSpec)

/-- ITS FALSE NEIGHBOUR: 'it returns false'. Refute it at one input. -/
def codePlaysWrong : ChangeSpec := { name := "codePlays", fn := fun _ => fun
  | [d1, d2, d3, d4, d5, d6] => { results := [.lit (.bool false)], args := [d1, d2, d3, d4, d5, d6] }
  | _ => none }
def CodePlaysWrongFalsely : Prop := codePlaysRow.holds Try.pinned (OpenSpec.ofChange codePlaysWrong)

/- THE SECOND FORM. 'bulk': how many values and letters a reading holds, each counted each time it is reached (what is shared counts as often as it is met; a slice's spare places count too). A statement '..UptoSaid' is the law's where the arguments, and the package variables that the reading takes, are together of bulk at most 1048576: NARROWER than '..Said'. Prove '..Said' where nothing that the law and all that it calls make is longer than what came in: it says more and counts as full. Else prove '..UptoSaid'. A law counts once. -/
mutual
def uptoBulk {H : Type} : DataW H → Nat
  | .lit (.string bytes) => bytes.length + 1
  | .lit _ => 1
  | .nil => 1
  | .ptr d => uptoBulk d + 1
  | .slice elems spare => uptoBulkAll elems + uptoBulkAll spare + 1
  | .agg parts => uptoBulkAll parts + 1
  | .iface _ d => uptoBulk d + 1
  | .map entries => uptoBulkEntries entries + 1
  | .held _ => 1
def uptoBulkAll {H : Type} : List (DataW H) → Nat
  | [] => 0
  | d :: r => uptoBulk d + uptoBulkAll r
def uptoBulkEntries {H : Type} : List (Lit × DataW H) → Nat
  | [] => 0
  | x :: r => uptoBulkEntry x + uptoBulkEntries r
def uptoBulkEntry {H : Type} : Lit × DataW H → Nat
  | (.string bytes, d) => bytes.length + uptoBulk d + 1
  | (_, d) => uptoBulk d + 1
 end
def uptoSmall : (H : Type) → List (DataW H) → Bool := fun _ ds => decide (uptoBulkAll ds ≤ 1048576)
def OpenSpec.upto (s : _root_.Go.ChangeSpec) : _root_.Go.OpenSpec := { _root_.Go.OpenSpec.ofChange s with cond := some uptoSmall }

/-- 'fettlelaw1.CrcsForms', WHERE WHAT IT READS IS OF BULK AT MOST 1048576: true; the input reads as it did. -/
def crcsFormsUptoRow : OpenClaim := { program := "ytdegfbhnilbcfaa", sum := "c4de5e69ac0518141e7c7508ee6b7e15dd3aa9c6742a7d1ced59e88c184d8860", func := "fettle/fettlelaw1.CrcsForms", spec := "crcsForms", apart := false, narrowed := true }
def CrcsFormsUptoSaid : Prop := crcsFormsUptoRow.holds Try.pinned (OpenSpec.upto crcsFormsSpec)

/-- 'fettlelaw1.CrcsLinear', WHERE WHAT IT READS IS OF BULK AT MOST 1048576: true; the input reads as it did. -/
def crcsLinearUptoRow : OpenClaim := { program := "ytdegfbhnilbcfaa", sum := "c4de5e69ac0518141e7c7508ee6b7e15dd3aa9c6742a7d1ced59e88c184d8860", func := "fettle/fettlelaw1.CrcsLinear", spec := "crcsLinear", apart := false, narrowed := true }
def CrcsLinearUptoSaid : Prop := crcsLinearUptoRow.holds Try.pinned (OpenSpec.upto crcsLinearSpec)

/-- 'fettlelaw1.CrcsTells', WHERE WHAT IT READS IS OF BULK AT MOST 1048576: true; the input reads as it did. -/
def crcsTellsUptoRow : OpenClaim := { program := "ytdegfbhnilbcfaa", sum := "c4de5e69ac0518141e7c7508ee6b7e15dd3aa9c6742a7d1ced59e88c184d8860", func := "fettle/fettlelaw1.CrcsTells", spec := "crcsTells", apart := false, narrowed := true }
def CrcsTellsUptoSaid : Prop := crcsTellsUptoRow.holds Try.pinned (OpenSpec.upto crcsTellsSpec)

/-- 'fettlelaw2.CodeForms', WHERE WHAT IT READS IS OF BULK AT MOST 1048576: true; the input reads as it did. -/
def codeFormsUptoRow : OpenClaim := { program := "ytdegfbhnilbcfaa", sum := "c4de5e69ac0518141e7c7508ee6b7e15dd3aa9c6742a7d1ced59e88c184d8860", func := "fettle/fettlelaw2.CodeForms", spec := "codeForms", apart := false, narrowed := true }
def CodeFormsUptoSaid : Prop := codeFormsUptoRow.holds Try.pinned (OpenSpec.upto codeFormsSpec)

/-- 'fettlelaw2.CodeBack', WHERE WHAT IT READS IS OF BULK AT MOST 1048576: true; the input reads as it did. -/
def codeBackUptoRow : OpenClaim := { program := "ytdegfbhnilbcfaa", sum := "c4de5e69ac0518141e7c7508ee6b7e15dd3aa9c6742a7d1ced59e88c184d8860", func := "fettle/fettlelaw2.CodeBack", spec := "codeBack", apart := false, narrowed := true }
def CodeBackUptoSaid : Prop := codeBackUptoRow.holds Try.pinned (OpenSpec.upto codeBackSpec)

/-- 'fettlelaw2.CodePlays', WHERE WHAT IT READS IS OF BULK AT MOST 1048576: true; the input reads as it did. -/
def codePlaysUptoRow : OpenClaim := { program := "ytdegfbhnilbcfaa", sum := "c4de5e69ac0518141e7c7508ee6b7e15dd3aa9c6742a7d1ced59e88c184d8860", func := "fettle/fettlelaw2.CodePlays", spec := "codePlays", apart := false, narrowed := true }
def CodePlaysUptoSaid : Prop := codePlaysUptoRow.holds Try.pinned (OpenSpec.upto codePlaysSpec)

end Rows
end Go.Proofs.Ytdegfbhnilbcfaa

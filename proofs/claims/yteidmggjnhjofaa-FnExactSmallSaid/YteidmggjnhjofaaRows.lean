/-
  No cell of these rows narrows 'for every input' (looked for: loops, veiled, ifaces, maps, wideKeys, modest, calm, conditions, laid).
  DERIVED. THE GIVEN ROWS OF THIS SEAT. 12 by the template 'for every input the law returns true; each argument reads behind the call as it read before'; 0 by the template 'total and deterministic' (their statements: YteidmggjnhjofaaTotals.lean).
  GIVEN WITH THE SEED: the statements are not yours to turn. If you find one false, say at which input.
  Laid BY PROGRAM, IN A SANDBOX (cutbox-rows.mjs): the forced cells as the released guide's own fill.sh prints them over the translation 6727f7d481e1d64b… (all of the seat's roots in one cut). By AI agents, Wed Nov 11 2026. No macro, syntax, notation, axiom, sorry.
-/
import Derived.Test.YteidmggjnhjofaaChecked
import GoSem.Claim
import GoSem.ClaimJoined
import GoSem.ClaimMapViews
import Derived.JoinedTies
import Derived.KernelRfl
namespace Go.Proofs.Yteidmggjnhjofaa
/- THE CELL 'sum', in the pinned program and in every row, IS THE sha256 OF THE DUMP (.gsa) THAT YteidmggjnhjofaaProg.lean LOADS. Nothing in Lean hashes anything: it is a label: what it is worth is what the hold of that sum in a sandbox is worth. -/
noncomputable def Try.pinned : Pinned := { name := "yteidmggjnhjofaa", sum := "6727f7d481e1d64bbf685a3a7c4f9328dced6638bd37a38cffaf981aba8aca01", checked := Try.checked }
namespace Rows
def none {H : Type} : Left H := { results := [], args := [] }

/-- 'laws.FnExactConstants': WHATEVER THE INPUT: true; the input reads as it did. -/
def fnExactConstantsSpec : ChangeSpec := { name := "fnExactConstants", fn := fun _ => fun
  | [] => { results := [.lit (.bool true)], args := [] }
  | _ => none }
def fnExactConstantsRow : OpenClaim := { program := "yteidmggjnhjofaa", sum := "6727f7d481e1d64bbf685a3a7c4f9328dced6638bd37a38cffaf981aba8aca01", func := "loop.example/g00325/laws.FnExactConstants", spec := "fnExactConstants", apart := false }
def FnExactConstantsSaid : Prop := fnExactConstantsRow.holds Try.pinned (OpenSpec.ofChange fnExactConstantsSpec)

/-- ITS FALSE NEIGHBOUR: 'it returns false'. Refute it at one input. -/
def fnExactConstantsWrong : ChangeSpec := { name := "fnExactConstants", fn := fun _ => fun
  | [] => { results := [.lit (.bool false)], args := [] }
  | _ => none }
def FnExactConstantsWrongFalsely : Prop := fnExactConstantsRow.holds Try.pinned (OpenSpec.ofChange fnExactConstantsWrong)

/-- 'laws.FnExactIsBlank': WHATEVER THE INPUT: true; the input reads as it did. -/
def fnExactIsBlankSpec : ChangeSpec := { name := "fnExactIsBlank", fn := fun _ => fun
  | [d] => { results := [.lit (.bool true)], args := [d] }
  | _ => none }
def fnExactIsBlankRow : OpenClaim := { program := "yteidmggjnhjofaa", sum := "6727f7d481e1d64bbf685a3a7c4f9328dced6638bd37a38cffaf981aba8aca01", func := "loop.example/g00325/laws.FnExactIsBlank", spec := "fnExactIsBlank", apart := false }
def FnExactIsBlankSaid : Prop := fnExactIsBlankRow.holds Try.pinned (OpenSpec.ofChange fnExactIsBlankSpec)

/-- ITS FALSE NEIGHBOUR: 'it returns false'. Refute it at one input. -/
def fnExactIsBlankWrong : ChangeSpec := { name := "fnExactIsBlank", fn := fun _ => fun
  | [d] => { results := [.lit (.bool false)], args := [d] }
  | _ => none }
def FnExactIsBlankWrongFalsely : Prop := fnExactIsBlankRow.holds Try.pinned (OpenSpec.ofChange fnExactIsBlankWrong)

/-- 'laws.FnExactIsLetter': WHATEVER THE INPUT: true; the input reads as it did. -/
def fnExactIsLetterSpec : ChangeSpec := { name := "fnExactIsLetter", fn := fun _ => fun
  | [d] => { results := [.lit (.bool true)], args := [d] }
  | _ => none }
def fnExactIsLetterRow : OpenClaim := { program := "yteidmggjnhjofaa", sum := "6727f7d481e1d64bbf685a3a7c4f9328dced6638bd37a38cffaf981aba8aca01", func := "loop.example/g00325/laws.FnExactIsLetter", spec := "fnExactIsLetter", apart := false }
def FnExactIsLetterSaid : Prop := fnExactIsLetterRow.holds Try.pinned (OpenSpec.ofChange fnExactIsLetterSpec)

/-- ITS FALSE NEIGHBOUR: 'it returns false'. Refute it at one input. -/
def fnExactIsLetterWrong : ChangeSpec := { name := "fnExactIsLetter", fn := fun _ => fun
  | [d] => { results := [.lit (.bool false)], args := [d] }
  | _ => none }
def FnExactIsLetterWrongFalsely : Prop := fnExactIsLetterRow.holds Try.pinned (OpenSpec.ofChange fnExactIsLetterWrong)

/-- 'laws.FnExactSignOk': WHATEVER THE INPUT: true; the input reads as it did. -/
def fnExactSignOkSpec : ChangeSpec := { name := "fnExactSignOk", fn := fun _ => fun
  | [d] => { results := [.lit (.bool true)], args := [d] }
  | _ => none }
def fnExactSignOkRow : OpenClaim := { program := "yteidmggjnhjofaa", sum := "6727f7d481e1d64bbf685a3a7c4f9328dced6638bd37a38cffaf981aba8aca01", func := "loop.example/g00325/laws.FnExactSignOk", spec := "fnExactSignOk", apart := false }
def FnExactSignOkSaid : Prop := fnExactSignOkRow.holds Try.pinned (OpenSpec.ofChange fnExactSignOkSpec)

/-- ITS FALSE NEIGHBOUR: 'it returns false'. Refute it at one input. -/
def fnExactSignOkWrong : ChangeSpec := { name := "fnExactSignOk", fn := fun _ => fun
  | [d] => { results := [.lit (.bool false)], args := [d] }
  | _ => none }
def FnExactSignOkWrongFalsely : Prop := fnExactSignOkRow.holds Try.pinned (OpenSpec.ofChange fnExactSignOkWrong)

/-- 'laws.FnExactIsText': WHATEVER THE INPUT: true; the input reads as it did. -/
def fnExactIsTextSpec : ChangeSpec := { name := "fnExactIsText", fn := fun _ => fun
  | [d] => { results := [.lit (.bool true)], args := [d] }
  | _ => none }
def fnExactIsTextRow : OpenClaim := { program := "yteidmggjnhjofaa", sum := "6727f7d481e1d64bbf685a3a7c4f9328dced6638bd37a38cffaf981aba8aca01", func := "loop.example/g00325/laws.FnExactIsText", spec := "fnExactIsText", apart := false }
def FnExactIsTextSaid : Prop := fnExactIsTextRow.holds Try.pinned (OpenSpec.ofChange fnExactIsTextSpec)

/-- ITS FALSE NEIGHBOUR: 'it returns false'. Refute it at one input. -/
def fnExactIsTextWrong : ChangeSpec := { name := "fnExactIsText", fn := fun _ => fun
  | [d] => { results := [.lit (.bool false)], args := [d] }
  | _ => none }
def FnExactIsTextWrongFalsely : Prop := fnExactIsTextRow.holds Try.pinned (OpenSpec.ofChange fnExactIsTextWrong)

/-- 'laws.FnExactSmall': WHATEVER THE INPUT: true; the input reads as it did. -/
def fnExactSmallSpec : ChangeSpec := { name := "fnExactSmall", fn := fun _ => fun
  | [d] => { results := [.lit (.bool true)], args := [d] }
  | _ => none }
def fnExactSmallRow : OpenClaim := { program := "yteidmggjnhjofaa", sum := "6727f7d481e1d64bbf685a3a7c4f9328dced6638bd37a38cffaf981aba8aca01", func := "loop.example/g00325/laws.FnExactSmall", spec := "fnExactSmall", apart := false }
def FnExactSmallSaid : Prop := fnExactSmallRow.holds Try.pinned (OpenSpec.ofChange fnExactSmallSpec)

/-- ITS FALSE NEIGHBOUR: 'it returns false'. Refute it at one input. -/
def fnExactSmallWrong : ChangeSpec := { name := "fnExactSmall", fn := fun _ => fun
  | [d] => { results := [.lit (.bool false)], args := [d] }
  | _ => none }
def FnExactSmallWrongFalsely : Prop := fnExactSmallRow.holds Try.pinned (OpenSpec.ofChange fnExactSmallWrong)

/-- 'laws.FnExactNameSign': WHATEVER THE INPUT: true; the input reads as it did. -/
def fnExactNameSignSpec : ChangeSpec := { name := "fnExactNameSign", fn := fun _ => fun
  | [d] => { results := [.lit (.bool true)], args := [d] }
  | _ => none }
def fnExactNameSignRow : OpenClaim := { program := "yteidmggjnhjofaa", sum := "6727f7d481e1d64bbf685a3a7c4f9328dced6638bd37a38cffaf981aba8aca01", func := "loop.example/g00325/laws.FnExactNameSign", spec := "fnExactNameSign", apart := false }
def FnExactNameSignSaid : Prop := fnExactNameSignRow.holds Try.pinned (OpenSpec.ofChange fnExactNameSignSpec)

/-- ITS FALSE NEIGHBOUR: 'it returns false'. Refute it at one input. -/
def fnExactNameSignWrong : ChangeSpec := { name := "fnExactNameSign", fn := fun _ => fun
  | [d] => { results := [.lit (.bool false)], args := [d] }
  | _ => none }
def FnExactNameSignWrongFalsely : Prop := fnExactNameSignRow.holds Try.pinned (OpenSpec.ofChange fnExactNameSignWrong)

/-- 'laws.FnExactNumbered': WHATEVER THE INPUT: true; the input reads as it did. -/
def fnExactNumberedSpec : ChangeSpec := { name := "fnExactNumbered", fn := fun _ => fun
  | [d] => { results := [.lit (.bool true)], args := [d] }
  | _ => none }
def fnExactNumberedRow : OpenClaim := { program := "yteidmggjnhjofaa", sum := "6727f7d481e1d64bbf685a3a7c4f9328dced6638bd37a38cffaf981aba8aca01", func := "loop.example/g00325/laws.FnExactNumbered", spec := "fnExactNumbered", apart := false }
def FnExactNumberedSaid : Prop := fnExactNumberedRow.holds Try.pinned (OpenSpec.ofChange fnExactNumberedSpec)

/-- ITS FALSE NEIGHBOUR: 'it returns false'. Refute it at one input. -/
def fnExactNumberedWrong : ChangeSpec := { name := "fnExactNumbered", fn := fun _ => fun
  | [d] => { results := [.lit (.bool false)], args := [d] }
  | _ => none }
def FnExactNumberedWrongFalsely : Prop := fnExactNumberedRow.holds Try.pinned (OpenSpec.ofChange fnExactNumberedWrong)

/-- 'laws.FnExactIsFirst': WHATEVER THE INPUT: true; the input reads as it did. -/
def fnExactIsFirstSpec : ChangeSpec := { name := "fnExactIsFirst", fn := fun _ => fun
  | [d] => { results := [.lit (.bool true)], args := [d] }
  | _ => none }
def fnExactIsFirstRow : OpenClaim := { program := "yteidmggjnhjofaa", sum := "6727f7d481e1d64bbf685a3a7c4f9328dced6638bd37a38cffaf981aba8aca01", func := "loop.example/g00325/laws.FnExactIsFirst", spec := "fnExactIsFirst", apart := false }
def FnExactIsFirstSaid : Prop := fnExactIsFirstRow.holds Try.pinned (OpenSpec.ofChange fnExactIsFirstSpec)

/-- ITS FALSE NEIGHBOUR: 'it returns false'. Refute it at one input. -/
def fnExactIsFirstWrong : ChangeSpec := { name := "fnExactIsFirst", fn := fun _ => fun
  | [d] => { results := [.lit (.bool false)], args := [d] }
  | _ => none }
def FnExactIsFirstWrongFalsely : Prop := fnExactIsFirstRow.holds Try.pinned (OpenSpec.ofChange fnExactIsFirstWrong)

/-- 'laws.FnExactPutSign': WHATEVER THE INPUT: true; the input reads as it did. -/
def fnExactPutSignSpec : ChangeSpec := { name := "fnExactPutSign", fn := fun _ => fun
  | [d] => { results := [.lit (.bool true)], args := [d] }
  | _ => none }
def fnExactPutSignRow : OpenClaim := { program := "yteidmggjnhjofaa", sum := "6727f7d481e1d64bbf685a3a7c4f9328dced6638bd37a38cffaf981aba8aca01", func := "loop.example/g00325/laws.FnExactPutSign", spec := "fnExactPutSign", apart := false }
def FnExactPutSignSaid : Prop := fnExactPutSignRow.holds Try.pinned (OpenSpec.ofChange fnExactPutSignSpec)

/-- ITS FALSE NEIGHBOUR: 'it returns false'. Refute it at one input. -/
def fnExactPutSignWrong : ChangeSpec := { name := "fnExactPutSign", fn := fun _ => fun
  | [d] => { results := [.lit (.bool false)], args := [d] }
  | _ => none }
def FnExactPutSignWrongFalsely : Prop := fnExactPutSignRow.holds Try.pinned (OpenSpec.ofChange fnExactPutSignWrong)

/-- 'laws.FnExactIsNext': WHATEVER THE INPUT: true; the input reads as it did. -/
def fnExactIsNextSpec : ChangeSpec := { name := "fnExactIsNext", fn := fun _ => fun
  | [d] => { results := [.lit (.bool true)], args := [d] }
  | _ => none }
def fnExactIsNextRow : OpenClaim := { program := "yteidmggjnhjofaa", sum := "6727f7d481e1d64bbf685a3a7c4f9328dced6638bd37a38cffaf981aba8aca01", func := "loop.example/g00325/laws.FnExactIsNext", spec := "fnExactIsNext", apart := false }
def FnExactIsNextSaid : Prop := fnExactIsNextRow.holds Try.pinned (OpenSpec.ofChange fnExactIsNextSpec)

/-- ITS FALSE NEIGHBOUR: 'it returns false'. Refute it at one input. -/
def fnExactIsNextWrong : ChangeSpec := { name := "fnExactIsNext", fn := fun _ => fun
  | [d] => { results := [.lit (.bool false)], args := [d] }
  | _ => none }
def FnExactIsNextWrongFalsely : Prop := fnExactIsNextRow.holds Try.pinned (OpenSpec.ofChange fnExactIsNextWrong)

/-- 'laws.FnExactNamed': WHATEVER THE INPUT: true; the input reads as it did. -/
def fnExactNamedSpec : ChangeSpec := { name := "fnExactNamed", fn := fun _ => fun
  | [] => { results := [.lit (.bool true)], args := [] }
  | _ => none }
def fnExactNamedRow : OpenClaim := { program := "yteidmggjnhjofaa", sum := "6727f7d481e1d64bbf685a3a7c4f9328dced6638bd37a38cffaf981aba8aca01", func := "loop.example/g00325/laws.FnExactNamed", spec := "fnExactNamed", apart := false }
def FnExactNamedSaid : Prop := fnExactNamedRow.holds Try.pinned (OpenSpec.ofChange fnExactNamedSpec)

/-- ITS FALSE NEIGHBOUR: 'it returns false'. Refute it at one input. -/
def fnExactNamedWrong : ChangeSpec := { name := "fnExactNamed", fn := fun _ => fun
  | [] => { results := [.lit (.bool false)], args := [] }
  | _ => none }
def FnExactNamedWrongFalsely : Prop := fnExactNamedRow.holds Try.pinned (OpenSpec.ofChange fnExactNamedWrong)

/- THE SECOND FORM. 'bulk': how many values and letters a reading holds, each counted each time it is reached (what is shared counts as often as it is met; a slice's spare places count too). A statement '..UptoSaid' is the law's where the arguments, and the package variables that the reading takes, are together of bulk at most 1048576: NARROWER than '..Said'. Prove '..Said' where nothing that the law and all that it calls make is longer than what came in: it says more and counts as full. Else prove '..UptoSaid'. A law counts once. -/
mutual
def uptoBulk {H : Type} : DataW H → Nat
  | .lit (.string bytes) => bytes.length + 1
  | .lit _ => 1
  | .nil => 1
  | .ptr d => uptoBulk d + 1
  | .slice elems spare => uptoBulkAll elems + uptoBulkAll spare + 1
  | .agg parts => uptoBulkAll parts + 1
  | .iface _ d => uptoBulk d + 1
  | .map entries => uptoBulkEntries entries + 1
  | .held _ => 1
def uptoBulkAll {H : Type} : List (DataW H) → Nat
  | [] => 0
  | d :: r => uptoBulk d + uptoBulkAll r
def uptoBulkEntries {H : Type} : List (Lit × DataW H) → Nat
  | [] => 0
  | x :: r => uptoBulkEntry x + uptoBulkEntries r
def uptoBulkEntry {H : Type} : Lit × DataW H → Nat
  | (.string bytes, d) => bytes.length + uptoBulk d + 1
  | (_, d) => uptoBulk d + 1
 end
def uptoSmall : (H : Type) → List (DataW H) → Bool := fun _ ds => decide (uptoBulkAll ds ≤ 1048576)
def OpenSpec.upto (s : _root_.Go.ChangeSpec) : _root_.Go.OpenSpec := { _root_.Go.OpenSpec.ofChange s with cond := some uptoSmall }

/-- 'laws.FnExactConstants', WHERE WHAT IT READS IS OF BULK AT MOST 1048576: true; the input reads as it did. -/
def fnExactConstantsUptoRow : OpenClaim := { program := "yteidmggjnhjofaa", sum := "6727f7d481e1d64bbf685a3a7c4f9328dced6638bd37a38cffaf981aba8aca01", func := "loop.example/g00325/laws.FnExactConstants", spec := "fnExactConstants", apart := false, narrowed := true }
def FnExactConstantsUptoSaid : Prop := fnExactConstantsUptoRow.holds Try.pinned (OpenSpec.upto fnExactConstantsSpec)

/-- 'laws.FnExactIsBlank', WHERE WHAT IT READS IS OF BULK AT MOST 1048576: true; the input reads as it did. -/
def fnExactIsBlankUptoRow : OpenClaim := { program := "yteidmggjnhjofaa", sum := "6727f7d481e1d64bbf685a3a7c4f9328dced6638bd37a38cffaf981aba8aca01", func := "loop.example/g00325/laws.FnExactIsBlank", spec := "fnExactIsBlank", apart := false, narrowed := true }
def FnExactIsBlankUptoSaid : Prop := fnExactIsBlankUptoRow.holds Try.pinned (OpenSpec.upto fnExactIsBlankSpec)

/-- 'laws.FnExactIsLetter', WHERE WHAT IT READS IS OF BULK AT MOST 1048576: true; the input reads as it did. -/
def fnExactIsLetterUptoRow : OpenClaim := { program := "yteidmggjnhjofaa", sum := "6727f7d481e1d64bbf685a3a7c4f9328dced6638bd37a38cffaf981aba8aca01", func := "loop.example/g00325/laws.FnExactIsLetter", spec := "fnExactIsLetter", apart := false, narrowed := true }
def FnExactIsLetterUptoSaid : Prop := fnExactIsLetterUptoRow.holds Try.pinned (OpenSpec.upto fnExactIsLetterSpec)

/-- 'laws.FnExactSignOk', WHERE WHAT IT READS IS OF BULK AT MOST 1048576: true; the input reads as it did. -/
def fnExactSignOkUptoRow : OpenClaim := { program := "yteidmggjnhjofaa", sum := "6727f7d481e1d64bbf685a3a7c4f9328dced6638bd37a38cffaf981aba8aca01", func := "loop.example/g00325/laws.FnExactSignOk", spec := "fnExactSignOk", apart := false, narrowed := true }
def FnExactSignOkUptoSaid : Prop := fnExactSignOkUptoRow.holds Try.pinned (OpenSpec.upto fnExactSignOkSpec)

/-- 'laws.FnExactIsText', WHERE WHAT IT READS IS OF BULK AT MOST 1048576: true; the input reads as it did. -/
def fnExactIsTextUptoRow : OpenClaim := { program := "yteidmggjnhjofaa", sum := "6727f7d481e1d64bbf685a3a7c4f9328dced6638bd37a38cffaf981aba8aca01", func := "loop.example/g00325/laws.FnExactIsText", spec := "fnExactIsText", apart := false, narrowed := true }
def FnExactIsTextUptoSaid : Prop := fnExactIsTextUptoRow.holds Try.pinned (OpenSpec.upto fnExactIsTextSpec)

/-- 'laws.FnExactSmall', WHERE WHAT IT READS IS OF BULK AT MOST 1048576: true; the input reads as it did. -/
def fnExactSmallUptoRow : OpenClaim := { program := "yteidmggjnhjofaa", sum := "6727f7d481e1d64bbf685a3a7c4f9328dced6638bd37a38cffaf981aba8aca01", func := "loop.example/g00325/laws.FnExactSmall", spec := "fnExactSmall", apart := false, narrowed := true }
def FnExactSmallUptoSaid : Prop := fnExactSmallUptoRow.holds Try.pinned (OpenSpec.upto fnExactSmallSpec)

/-- 'laws.FnExactNameSign', WHERE WHAT IT READS IS OF BULK AT MOST 1048576: true; the input reads as it did. -/
def fnExactNameSignUptoRow : OpenClaim := { program := "yteidmggjnhjofaa", sum := "6727f7d481e1d64bbf685a3a7c4f9328dced6638bd37a38cffaf981aba8aca01", func := "loop.example/g00325/laws.FnExactNameSign", spec := "fnExactNameSign", apart := false, narrowed := true }
def FnExactNameSignUptoSaid : Prop := fnExactNameSignUptoRow.holds Try.pinned (OpenSpec.upto fnExactNameSignSpec)

/-- 'laws.FnExactNumbered', WHERE WHAT IT READS IS OF BULK AT MOST 1048576: true; the input reads as it did. -/
def fnExactNumberedUptoRow : OpenClaim := { program := "yteidmggjnhjofaa", sum := "6727f7d481e1d64bbf685a3a7c4f9328dced6638bd37a38cffaf981aba8aca01", func := "loop.example/g00325/laws.FnExactNumbered", spec := "fnExactNumbered", apart := false, narrowed := true }
def FnExactNumberedUptoSaid : Prop := fnExactNumberedUptoRow.holds Try.pinned (OpenSpec.upto fnExactNumberedSpec)

/-- 'laws.FnExactIsFirst', WHERE WHAT IT READS IS OF BULK AT MOST 1048576: true; the input reads as it did. -/
def fnExactIsFirstUptoRow : OpenClaim := { program := "yteidmggjnhjofaa", sum := "6727f7d481e1d64bbf685a3a7c4f9328dced6638bd37a38cffaf981aba8aca01", func := "loop.example/g00325/laws.FnExactIsFirst", spec := "fnExactIsFirst", apart := false, narrowed := true }
def FnExactIsFirstUptoSaid : Prop := fnExactIsFirstUptoRow.holds Try.pinned (OpenSpec.upto fnExactIsFirstSpec)

/-- 'laws.FnExactPutSign', WHERE WHAT IT READS IS OF BULK AT MOST 1048576: true; the input reads as it did. -/
def fnExactPutSignUptoRow : OpenClaim := { program := "yteidmggjnhjofaa", sum := "6727f7d481e1d64bbf685a3a7c4f9328dced6638bd37a38cffaf981aba8aca01", func := "loop.example/g00325/laws.FnExactPutSign", spec := "fnExactPutSign", apart := false, narrowed := true }
def FnExactPutSignUptoSaid : Prop := fnExactPutSignUptoRow.holds Try.pinned (OpenSpec.upto fnExactPutSignSpec)

/-- 'laws.FnExactIsNext', WHERE WHAT IT READS IS OF BULK AT MOST 1048576: true; the input reads as it did. -/
def fnExactIsNextUptoRow : OpenClaim := { program := "yteidmggjnhjofaa", sum := "6727f7d481e1d64bbf685a3a7c4f9328dced6638bd37a38cffaf981aba8aca01", func := "loop.example/g00325/laws.FnExactIsNext", spec := "fnExactIsNext", apart := false, narrowed := true }
def FnExactIsNextUptoSaid : Prop := fnExactIsNextUptoRow.holds Try.pinned (OpenSpec.upto fnExactIsNextSpec)

/-- 'laws.FnExactNamed', WHERE WHAT IT READS IS OF BULK AT MOST 1048576: true; the input reads as it did. -/
def fnExactNamedUptoRow : OpenClaim := { program := "yteidmggjnhjofaa", sum := "6727f7d481e1d64bbf685a3a7c4f9328dced6638bd37a38cffaf981aba8aca01", func := "loop.example/g00325/laws.FnExactNamed", spec := "fnExactNamed", apart := false, narrowed := true }
def FnExactNamedUptoSaid : Prop := fnExactNamedUptoRow.holds Try.pinned (OpenSpec.upto fnExactNamedSpec)

end Rows
end Go.Proofs.Yteidmggjnhjofaa

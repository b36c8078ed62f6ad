/-
  No cell of these rows narrows 'for every input' (looked for: loops, veiled, ifaces, maps, wideKeys, modest, calm, conditions, laid).
  DERIVED. THE GIVEN ROWS OF THIS SEAT. 6 by the template 'for every input the law returns true; each argument reads behind the call as it read before'; 0 by the template 'total and deterministic' (their statements: YtedeliggbjbngaaTotals.lean).
  GIVEN WITH THE SEED: the statements are not yours to turn. If you find one false, say at which input.
  Laid BY PROGRAM, IN A SANDBOX (cutbox-rows.mjs): the forced cells as the released guide's own fill.sh prints them over the translation a92b936206c841c0… (all of the seat's roots in one cut). By AI agents, Wed Nov 11 2026. No macro, syntax, notation, axiom, sorry.
-/
import Derived.Test.YtedeliggbjbngaaChecked
import GoSem.Claim
import GoSem.ClaimJoined
import GoSem.ClaimMapViews
import Derived.JoinedTies
import Derived.KernelRfl
namespace Go.Proofs.Ytedeliggbjbngaa
/- THE CELL 'sum', in the pinned program and in every row, IS THE sha256 OF THE DUMP (.gsa) THAT YtedeliggbjbngaaProg.lean LOADS. Nothing in Lean hashes anything: it is a label: what it is worth is what the hold of that sum in a sandbox is worth. -/
noncomputable def Try.pinned : Pinned := { name := "ytedeliggbjbngaa", sum := "a92b936206c841c0847e8543be9a2877a0157ca740869b36e636ffda5c4ab87e", checked := Try.checked }
namespace Rows
def none {H : Type} : Left H := { results := [], args := [] }

/-- 'laws.FnExactPageNew': WHATEVER THE INPUT: true; the input reads as it did. -/
def fnExactPageNewSpec : ChangeSpec := { name := "fnExactPageNew", fn := fun _ => fun
  | [] => { results := [.lit (.bool true)], args := [] }
  | _ => none }
def fnExactPageNewRow : OpenClaim := { program := "ytedeliggbjbngaa", sum := "a92b936206c841c0847e8543be9a2877a0157ca740869b36e636ffda5c4ab87e", func := "loop.example/g00325/laws.FnExactPageNew", spec := "fnExactPageNew", apart := false }
def FnExactPageNewSaid : Prop := fnExactPageNewRow.holds Try.pinned (OpenSpec.ofChange fnExactPageNewSpec)

/-- ITS FALSE NEIGHBOUR: 'it returns false'. Refute it at one input. -/
def fnExactPageNewWrong : ChangeSpec := { name := "fnExactPageNew", fn := fun _ => fun
  | [] => { results := [.lit (.bool false)], args := [] }
  | _ => none }
def FnExactPageNewWrongFalsely : Prop := fnExactPageNewRow.holds Try.pinned (OpenSpec.ofChange fnExactPageNewWrong)

/-- 'laws.FnExactTableOpen': WHATEVER THE INPUT: true; the input reads as it did. -/
def fnExactTableOpenSpec : ChangeSpec := { name := "fnExactTableOpen", fn := fun _ => fun
  | [d] => { results := [.lit (.bool true)], args := [d] }
  | _ => none }
def fnExactTableOpenRow : OpenClaim := { program := "ytedeliggbjbngaa", sum := "a92b936206c841c0847e8543be9a2877a0157ca740869b36e636ffda5c4ab87e", func := "loop.example/g00325/laws.FnExactTableOpen", spec := "fnExactTableOpen", unfollowed := true, recurses := true, apart := false }
def FnExactTableOpenSaid : Prop := fnExactTableOpenRow.holds Try.pinned (OpenSpec.ofChange fnExactTableOpenSpec)

/-- ITS FALSE NEIGHBOUR: 'it returns false'. Refute it at one input. -/
def fnExactTableOpenWrong : ChangeSpec := { name := "fnExactTableOpen", fn := fun _ => fun
  | [d] => { results := [.lit (.bool false)], args := [d] }
  | _ => none }
def FnExactTableOpenWrongFalsely : Prop := fnExactTableOpenRow.holds Try.pinned (OpenSpec.ofChange fnExactTableOpenWrong)

/-- 'laws.FnExactInTable': WHATEVER THE INPUT: true; the input reads as it did. -/
def fnExactInTableSpec : ChangeSpec := { name := "fnExactInTable", fn := fun _ => fun
  | [d] => { results := [.lit (.bool true)], args := [d] }
  | _ => none }
def fnExactInTableRow : OpenClaim := { program := "ytedeliggbjbngaa", sum := "a92b936206c841c0847e8543be9a2877a0157ca740869b36e636ffda5c4ab87e", func := "loop.example/g00325/laws.FnExactInTable", spec := "fnExactInTable", inPlace := ["internal/bytealg.IndexByteString", "internal/bytealg.IndexString"], named := ["internal/bytealg.MaxLen"], apart := false }
def FnExactInTableSaid : Prop := fnExactInTableRow.holds Try.pinned (OpenSpec.ofChange fnExactInTableSpec)

/-- ITS FALSE NEIGHBOUR: 'it returns false'. Refute it at one input. -/
def fnExactInTableWrong : ChangeSpec := { name := "fnExactInTable", fn := fun _ => fun
  | [d] => { results := [.lit (.bool false)], args := [d] }
  | _ => none }
def FnExactInTableWrongFalsely : Prop := fnExactInTableRow.holds Try.pinned (OpenSpec.ofChange fnExactInTableWrong)

/-- 'laws.FnExactMark': WHATEVER THE INPUT: true; the input reads as it did. -/
def fnExactMarkSpec : ChangeSpec := { name := "fnExactMark", fn := fun _ => fun
  | [d] => { results := [.lit (.bool true)], args := [d] }
  | _ => none }
def fnExactMarkRow : OpenClaim := { program := "ytedeliggbjbngaa", sum := "a92b936206c841c0847e8543be9a2877a0157ca740869b36e636ffda5c4ab87e", func := "loop.example/g00325/laws.FnExactMark", spec := "fnExactMark", apart := false }
def FnExactMarkSaid : Prop := fnExactMarkRow.holds Try.pinned (OpenSpec.ofChange fnExactMarkSpec)

/-- ITS FALSE NEIGHBOUR: 'it returns false'. Refute it at one input. -/
def fnExactMarkWrong : ChangeSpec := { name := "fnExactMark", fn := fun _ => fun
  | [d] => { results := [.lit (.bool false)], args := [d] }
  | _ => none }
def FnExactMarkWrongFalsely : Prop := fnExactMarkRow.holds Try.pinned (OpenSpec.ofChange fnExactMarkWrong)

/-- 'laws.FnExactPopTo': WHATEVER THE INPUT: true; the input reads as it did. -/
def fnExactPopToSpec : ChangeSpec := { name := "fnExactPopTo", fn := fun _ => fun
  | [d1, d2] => { results := [.lit (.bool true)], args := [d1, d2] }
  | _ => none }
def fnExactPopToRow : OpenClaim := { program := "ytedeliggbjbngaa", sum := "a92b936206c841c0847e8543be9a2877a0157ca740869b36e636ffda5c4ab87e", func := "loop.example/g00325/laws.FnExactPopTo", spec := "fnExactPopTo", apart := false }
def FnExactPopToSaid : Prop := fnExactPopToRow.holds Try.pinned (OpenSpec.ofChange fnExactPopToSpec)

/-- ITS FALSE NEIGHBOUR: 'it returns false'. Refute it at one input. -/
def fnExactPopToWrong : ChangeSpec := { name := "fnExactPopTo", fn := fun _ => fun
  | [d1, d2] => { results := [.lit (.bool false)], args := [d1, d2] }
  | _ => none }
def FnExactPopToWrongFalsely : Prop := fnExactPopToRow.holds Try.pinned (OpenSpec.ofChange fnExactPopToWrong)

/-- 'laws.FnExactPopName': WHATEVER THE INPUT: true; the input reads as it did. -/
def fnExactPopNameSpec : ChangeSpec := { name := "fnExactPopName", fn := fun _ => fun
  | [d1, d2] => { results := [.lit (.bool true)], args := [d1, d2] }
  | _ => none }
def fnExactPopNameRow : OpenClaim := { program := "ytedeliggbjbngaa", sum := "a92b936206c841c0847e8543be9a2877a0157ca740869b36e636ffda5c4ab87e", func := "loop.example/g00325/laws.FnExactPopName", spec := "fnExactPopName", unfollowed := true, recurses := true, apart := false }
def FnExactPopNameSaid : Prop := fnExactPopNameRow.holds Try.pinned (OpenSpec.ofChange fnExactPopNameSpec)

/-- ITS FALSE NEIGHBOUR: 'it returns false'. Refute it at one input. -/
def fnExactPopNameWrong : ChangeSpec := { name := "fnExactPopName", fn := fun _ => fun
  | [d1, d2] => { results := [.lit (.bool false)], args := [d1, d2] }
  | _ => none }
def FnExactPopNameWrongFalsely : Prop := fnExactPopNameRow.holds Try.pinned (OpenSpec.ofChange fnExactPopNameWrong)

/- THE SECOND FORM. 'bulk': how many values and letters a reading holds, each counted each time it is reached (what is shared counts as often as it is met; a slice's spare places count too). A statement '..UptoSaid' is the law's where the arguments, and the package variables that the reading takes, are together of bulk at most 1048576: NARROWER than '..Said'. Prove '..Said' where nothing that the law and all that it calls make is longer than what came in: it says more and counts as full. Else prove '..UptoSaid'. A law counts once. -/
mutual
def uptoBulk {H : Type} : DataW H → Nat
  | .lit (.string bytes) => bytes.length + 1
  | .lit _ => 1
  | .nil => 1
  | .ptr d => uptoBulk d + 1
  | .slice elems spare => uptoBulkAll elems + uptoBulkAll spare + 1
  | .agg parts => uptoBulkAll parts + 1
  | .iface _ d => uptoBulk d + 1
  | .map entries => uptoBulkEntries entries + 1
  | .held _ => 1
def uptoBulkAll {H : Type} : List (DataW H) → Nat
  | [] => 0
  | d :: r => uptoBulk d + uptoBulkAll r
def uptoBulkEntries {H : Type} : List (Lit × DataW H) → Nat
  | [] => 0
  | x :: r => uptoBulkEntry x + uptoBulkEntries r
def uptoBulkEntry {H : Type} : Lit × DataW H → Nat
  | (.string bytes, d) => bytes.length + uptoBulk d + 1
  | (_, d) => uptoBulk d + 1
 end
def uptoSmall : (H : Type) → List (DataW H) → Bool := fun _ ds => decide (uptoBulkAll ds ≤ 1048576)
def OpenSpec.upto (s : _root_.Go.ChangeSpec) : _root_.Go.OpenSpec := { _root_.Go.OpenSpec.ofChange s with cond := some uptoSmall }

/-- 'laws.FnExactPageNew', WHERE WHAT IT READS IS OF BULK AT MOST 1048576: true; the input reads as it did. -/
def fnExactPageNewUptoRow : OpenClaim := { program := "ytedeliggbjbngaa", sum := "a92b936206c841c0847e8543be9a2877a0157ca740869b36e636ffda5c4ab87e", func := "loop.example/g00325/laws.FnExactPageNew", spec := "fnExactPageNew", apart := false, narrowed := true }
def FnExactPageNewUptoSaid : Prop := fnExactPageNewUptoRow.holds Try.pinned (OpenSpec.upto fnExactPageNewSpec)

/-- 'laws.FnExactTableOpen', WHERE WHAT IT READS IS OF BULK AT MOST 1048576: true; the input reads as it did. -/
def fnExactTableOpenUptoRow : OpenClaim := { program := "ytedeliggbjbngaa", sum := "a92b936206c841c0847e8543be9a2877a0157ca740869b36e636ffda5c4ab87e", func := "loop.example/g00325/laws.FnExactTableOpen", spec := "fnExactTableOpen", unfollowed := true, recurses := true, apart := false, narrowed := true }
def FnExactTableOpenUptoSaid : Prop := fnExactTableOpenUptoRow.holds Try.pinned (OpenSpec.upto fnExactTableOpenSpec)

/-- 'laws.FnExactInTable', WHERE WHAT IT READS IS OF BULK AT MOST 1048576: true; the input reads as it did. -/
def fnExactInTableUptoRow : OpenClaim := { program := "ytedeliggbjbngaa", sum := "a92b936206c841c0847e8543be9a2877a0157ca740869b36e636ffda5c4ab87e", func := "loop.example/g00325/laws.FnExactInTable", spec := "fnExactInTable", inPlace := ["internal/bytealg.IndexByteString", "internal/bytealg.IndexString"], named := ["internal/bytealg.MaxLen"], apart := false, narrowed := true }
def FnExactInTableUptoSaid : Prop := fnExactInTableUptoRow.holds Try.pinned (OpenSpec.upto fnExactInTableSpec)

/-- 'laws.FnExactMark', WHERE WHAT IT READS IS OF BULK AT MOST 1048576: true; the input reads as it did. -/
def fnExactMarkUptoRow : OpenClaim := { program := "ytedeliggbjbngaa", sum := "a92b936206c841c0847e8543be9a2877a0157ca740869b36e636ffda5c4ab87e", func := "loop.example/g00325/laws.FnExactMark", spec := "fnExactMark", apart := false, narrowed := true }
def FnExactMarkUptoSaid : Prop := fnExactMarkUptoRow.holds Try.pinned (OpenSpec.upto fnExactMarkSpec)

/-- 'laws.FnExactPopTo', WHERE WHAT IT READS IS OF BULK AT MOST 1048576: true; the input reads as it did. -/
def fnExactPopToUptoRow : OpenClaim := { program := "ytedeliggbjbngaa", sum := "a92b936206c841c0847e8543be9a2877a0157ca740869b36e636ffda5c4ab87e", func := "loop.example/g00325/laws.FnExactPopTo", spec := "fnExactPopTo", apart := false, narrowed := true }
def FnExactPopToUptoSaid : Prop := fnExactPopToUptoRow.holds Try.pinned (OpenSpec.upto fnExactPopToSpec)

/-- 'laws.FnExactPopName', WHERE WHAT IT READS IS OF BULK AT MOST 1048576: true; the input reads as it did. -/
def fnExactPopNameUptoRow : OpenClaim := { program := "ytedeliggbjbngaa", sum := "a92b936206c841c0847e8543be9a2877a0157ca740869b36e636ffda5c4ab87e", func := "loop.example/g00325/laws.FnExactPopName", spec := "fnExactPopName", unfollowed := true, recurses := true, apart := false, narrowed := true }
def FnExactPopNameUptoSaid : Prop := fnExactPopNameUptoRow.holds Try.pinned (OpenSpec.upto fnExactPopNameSpec)

end Rows
end Go.Proofs.Ytedeliggbjbngaa

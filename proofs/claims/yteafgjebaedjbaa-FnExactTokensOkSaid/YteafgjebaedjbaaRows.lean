/-
  No cell of these rows narrows 'for every input' (looked for: loops, veiled, ifaces, maps, wideKeys, modest, calm, conditions, laid).
  DERIVED. THE GIVEN ROWS OF THIS SEAT. 6 by the template 'for every input the law returns true; each argument reads behind the call as it read before'; 0 by the template 'total and deterministic' (their statements: YteafgjebaedjbaaTotals.lean).
  GIVEN WITH THE SEED: the statements are not yours to turn. If you find one false, say at which input.
  Laid BY PROGRAM, IN A SANDBOX (cutbox-rows.mjs): the forced cells as the released guide's own fill.sh prints them over the translation f17c810e276dd706… (all of the seat's roots in one cut). By AI agents, Wed Nov 11 2026. No macro, syntax, notation, axiom, sorry.
-/
import Derived.Test.YteafgjebaedjbaaChecked
import GoSem.Claim
import GoSem.ClaimJoined
import GoSem.ClaimMapViews
import Derived.JoinedTies
import Derived.KernelRfl
namespace Go.Proofs.Yteafgjebaedjbaa
/- THE CELL 'sum', in the pinned program and in every row, IS THE sha256 OF THE DUMP (.gsa) THAT YteafgjebaedjbaaProg.lean LOADS. Nothing in Lean hashes anything: it is a label: what it is worth is what the hold of that sum in a sandbox is worth. -/
noncomputable def Try.pinned : Pinned := { name := "yteafgjebaedjbaa", sum := "f17c810e276dd7061b1a59353ea87db3027b6b5426bba341272b0bc0ef296e65", checked := Try.checked }
namespace Rows
def none {H : Type} : Left H := { results := [], args := [] }

/-- 'laws.FnExactCleanOk': WHATEVER THE INPUT: true; the input reads as it did. -/
def fnExactCleanOkSpec : ChangeSpec := { name := "fnExactCleanOk", fn := fun _ => fun
  | [d] => { results := [.lit (.bool true)], args := [d] }
  | _ => none }
def fnExactCleanOkRow : OpenClaim := { program := "yteafgjebaedjbaa", sum := "f17c810e276dd7061b1a59353ea87db3027b6b5426bba341272b0bc0ef296e65", func := "loop.example/g00325/laws.FnExactCleanOk", spec := "fnExactCleanOk", inPlace := ["internal/abi.NoEscape"], apart := false }
def FnExactCleanOkSaid : Prop := fnExactCleanOkRow.holds Try.pinned (OpenSpec.ofChange fnExactCleanOkSpec)

/-- ITS FALSE NEIGHBOUR: 'it returns false'. Refute it at one input. -/
def fnExactCleanOkWrong : ChangeSpec := { name := "fnExactCleanOk", fn := fun _ => fun
  | [d] => { results := [.lit (.bool false)], args := [d] }
  | _ => none }
def FnExactCleanOkWrongFalsely : Prop := fnExactCleanOkRow.holds Try.pinned (OpenSpec.ofChange fnExactCleanOkWrong)

/-- 'laws.FnKindsOfTags': WHATEVER THE INPUT: true; the input reads as it did. -/
def fnKindsOfTagsSpec : ChangeSpec := { name := "fnKindsOfTags", fn := fun _ => fun
  | [d] => { results := [.lit (.bool true)], args := [d] }
  | _ => none }
def fnKindsOfTagsRow : OpenClaim := { program := "yteafgjebaedjbaa", sum := "f17c810e276dd7061b1a59353ea87db3027b6b5426bba341272b0bc0ef296e65", func := "loop.example/g00325/laws.FnKindsOfTags", spec := "fnKindsOfTags", inPlace := ["internal/bytealg.IndexByteString", "internal/bytealg.IndexString"], named := ["internal/bytealg.MaxLen"], apart := false }
def FnKindsOfTagsSaid : Prop := fnKindsOfTagsRow.holds Try.pinned (OpenSpec.ofChange fnKindsOfTagsSpec)

/-- ITS FALSE NEIGHBOUR: 'it returns false'. Refute it at one input. -/
def fnKindsOfTagsWrong : ChangeSpec := { name := "fnKindsOfTags", fn := fun _ => fun
  | [d] => { results := [.lit (.bool false)], args := [d] }
  | _ => none }
def FnKindsOfTagsWrongFalsely : Prop := fnKindsOfTagsRow.holds Try.pinned (OpenSpec.ofChange fnKindsOfTagsWrong)

/-- 'laws.FnExactRef': WHATEVER THE INPUT: true; the input reads as it did. -/
def fnExactRefSpec : ChangeSpec := { name := "fnExactRef", fn := fun _ => fun
  | [d1, d2, d3] => { results := [.lit (.bool true)], args := [d1, d2, d3] }
  | _ => none }
def fnExactRefRow : OpenClaim := { program := "yteafgjebaedjbaa", sum := "f17c810e276dd7061b1a59353ea87db3027b6b5426bba341272b0bc0ef296e65", func := "loop.example/g00325/laws.FnExactRef", spec := "fnExactRef", apart := false }
def FnExactRefSaid : Prop := fnExactRefRow.holds Try.pinned (OpenSpec.ofChange fnExactRefSpec)

/-- ITS FALSE NEIGHBOUR: 'it returns false'. Refute it at one input. -/
def fnExactRefWrong : ChangeSpec := { name := "fnExactRef", fn := fun _ => fun
  | [d1, d2, d3] => { results := [.lit (.bool false)], args := [d1, d2, d3] }
  | _ => none }
def FnExactRefWrongFalsely : Prop := fnExactRefRow.holds Try.pinned (OpenSpec.ofChange fnExactRefWrong)

/-- 'laws.FnSigns': WHATEVER THE INPUT: true; the input reads as it did. -/
def fnSignsSpec : ChangeSpec := { name := "fnSigns", fn := fun _ => fun
  | [d] => { results := [.lit (.bool true)], args := [d] }
  | _ => none }
def fnSignsRow : OpenClaim := { program := "yteafgjebaedjbaa", sum := "f17c810e276dd7061b1a59353ea87db3027b6b5426bba341272b0bc0ef296e65", func := "loop.example/g00325/laws.FnSigns", spec := "fnSigns", inPlace := ["internal/abi.NoEscape"], apart := false }
def FnSignsSaid : Prop := fnSignsRow.holds Try.pinned (OpenSpec.ofChange fnSignsSpec)

/-- ITS FALSE NEIGHBOUR: 'it returns false'. Refute it at one input. -/
def fnSignsWrong : ChangeSpec := { name := "fnSigns", fn := fun _ => fun
  | [d] => { results := [.lit (.bool false)], args := [d] }
  | _ => none }
def FnSignsWrongFalsely : Prop := fnSignsRow.holds Try.pinned (OpenSpec.ofChange fnSignsWrong)

/-- 'laws.FnExactRefs': WHATEVER THE INPUT: true; the input reads as it did. -/
def fnExactRefsSpec : ChangeSpec := { name := "fnExactRefs", fn := fun _ => fun
  | [d1, d2] => { results := [.lit (.bool true)], args := [d1, d2] }
  | _ => none }
def fnExactRefsRow : OpenClaim := { program := "yteafgjebaedjbaa", sum := "f17c810e276dd7061b1a59353ea87db3027b6b5426bba341272b0bc0ef296e65", func := "loop.example/g00325/laws.FnExactRefs", spec := "fnExactRefs", inPlace := ["internal/abi.NoEscape"], apart := false }
def FnExactRefsSaid : Prop := fnExactRefsRow.holds Try.pinned (OpenSpec.ofChange fnExactRefsSpec)

/-- ITS FALSE NEIGHBOUR: 'it returns false'. Refute it at one input. -/
def fnExactRefsWrong : ChangeSpec := { name := "fnExactRefs", fn := fun _ => fun
  | [d1, d2] => { results := [.lit (.bool false)], args := [d1, d2] }
  | _ => none }
def FnExactRefsWrongFalsely : Prop := fnExactRefsRow.holds Try.pinned (OpenSpec.ofChange fnExactRefsWrong)

/-- 'laws.FnExactTokensOk': WHATEVER THE INPUT: true; the input reads as it did. -/
def fnExactTokensOkSpec : ChangeSpec := { name := "fnExactTokensOk", fn := fun _ => fun
  | [d] => { results := [.lit (.bool true)], args := [d] }
  | _ => none }
def fnExactTokensOkRow : OpenClaim := { program := "yteafgjebaedjbaa", sum := "f17c810e276dd7061b1a59353ea87db3027b6b5426bba341272b0bc0ef296e65", func := "loop.example/g00325/laws.FnExactTokensOk", spec := "fnExactTokensOk", inPlace := ["internal/abi.NoEscape", "internal/bytealg.IndexByteString", "internal/bytealg.IndexString"], unfollowed := true, recurses := true, named := ["internal/bytealg.MaxLen"], apart := false }
def FnExactTokensOkSaid : Prop := fnExactTokensOkRow.holds Try.pinned (OpenSpec.ofChange fnExactTokensOkSpec)

/-- ITS FALSE NEIGHBOUR: 'it returns false'. Refute it at one input. -/
def fnExactTokensOkWrong : ChangeSpec := { name := "fnExactTokensOk", fn := fun _ => fun
  | [d] => { results := [.lit (.bool false)], args := [d] }
  | _ => none }
def FnExactTokensOkWrongFalsely : Prop := fnExactTokensOkRow.holds Try.pinned (OpenSpec.ofChange fnExactTokensOkWrong)

/- THE SECOND FORM. 'bulk': how many values and letters a reading holds, each counted each time it is reached (what is shared counts as often as it is met; a slice's spare places count too). A statement '..UptoSaid' is the law's where the arguments, and the package variables that the reading takes, are together of bulk at most 1048576: NARROWER than '..Said'. Prove '..Said' where nothing that the law and all that it calls make is longer than what came in: it says more and counts as full. Else prove '..UptoSaid'. A law counts once. -/
mutual
def uptoBulk {H : Type} : DataW H → Nat
  | .lit (.string bytes) => bytes.length + 1
  | .lit _ => 1
  | .nil => 1
  | .ptr d => uptoBulk d + 1
  | .slice elems spare => uptoBulkAll elems + uptoBulkAll spare + 1
  | .agg parts => uptoBulkAll parts + 1
  | .iface _ d => uptoBulk d + 1
  | .map entries => uptoBulkEntries entries + 1
  | .held _ => 1
def uptoBulkAll {H : Type} : List (DataW H) → Nat
  | [] => 0
  | d :: r => uptoBulk d + uptoBulkAll r
def uptoBulkEntries {H : Type} : List (Lit × DataW H) → Nat
  | [] => 0
  | x :: r => uptoBulkEntry x + uptoBulkEntries r
def uptoBulkEntry {H : Type} : Lit × DataW H → Nat
  | (.string bytes, d) => bytes.length + uptoBulk d + 1
  | (_, d) => uptoBulk d + 1
 end
def uptoSmall : (H : Type) → List (DataW H) → Bool := fun _ ds => decide (uptoBulkAll ds ≤ 1048576)
def OpenSpec.upto (s : _root_.Go.ChangeSpec) : _root_.Go.OpenSpec := { _root_.Go.OpenSpec.ofChange s with cond := some uptoSmall }

/-- 'laws.FnExactCleanOk', WHERE WHAT IT READS IS OF BULK AT MOST 1048576: true; the input reads as it did. -/
def fnExactCleanOkUptoRow : OpenClaim := { program := "yteafgjebaedjbaa", sum := "f17c810e276dd7061b1a59353ea87db3027b6b5426bba341272b0bc0ef296e65", func := "loop.example/g00325/laws.FnExactCleanOk", spec := "fnExactCleanOk", inPlace := ["internal/abi.NoEscape"], apart := false, narrowed := true }
def FnExactCleanOkUptoSaid : Prop := fnExactCleanOkUptoRow.holds Try.pinned (OpenSpec.upto fnExactCleanOkSpec)

/-- 'laws.FnKindsOfTags', WHERE WHAT IT READS IS OF BULK AT MOST 1048576: true; the input reads as it did. -/
def fnKindsOfTagsUptoRow : OpenClaim := { program := "yteafgjebaedjbaa", sum := "f17c810e276dd7061b1a59353ea87db3027b6b5426bba341272b0bc0ef296e65", func := "loop.example/g00325/laws.FnKindsOfTags", spec := "fnKindsOfTags", inPlace := ["internal/bytealg.IndexByteString", "internal/bytealg.IndexString"], named := ["internal/bytealg.MaxLen"], apart := false, narrowed := true }
def FnKindsOfTagsUptoSaid : Prop := fnKindsOfTagsUptoRow.holds Try.pinned (OpenSpec.upto fnKindsOfTagsSpec)

/-- 'laws.FnExactRef', WHERE WHAT IT READS IS OF BULK AT MOST 1048576: true; the input reads as it did. -/
def fnExactRefUptoRow : OpenClaim := { program := "yteafgjebaedjbaa", sum := "f17c810e276dd7061b1a59353ea87db3027b6b5426bba341272b0bc0ef296e65", func := "loop.example/g00325/laws.FnExactRef", spec := "fnExactRef", apart := false, narrowed := true }
def FnExactRefUptoSaid : Prop := fnExactRefUptoRow.holds Try.pinned (OpenSpec.upto fnExactRefSpec)

/-- 'laws.FnSigns', WHERE WHAT IT READS IS OF BULK AT MOST 1048576: true; the input reads as it did. -/
def fnSignsUptoRow : OpenClaim := { program := "yteafgjebaedjbaa", sum := "f17c810e276dd7061b1a59353ea87db3027b6b5426bba341272b0bc0ef296e65", func := "loop.example/g00325/laws.FnSigns", spec := "fnSigns", inPlace := ["internal/abi.NoEscape"], apart := false, narrowed := true }
def FnSignsUptoSaid : Prop := fnSignsUptoRow.holds Try.pinned (OpenSpec.upto fnSignsSpec)

/-- 'laws.FnExactRefs', WHERE WHAT IT READS IS OF BULK AT MOST 1048576: true; the input reads as it did. -/
def fnExactRefsUptoRow : OpenClaim := { program := "yteafgjebaedjbaa", sum := "f17c810e276dd7061b1a59353ea87db3027b6b5426bba341272b0bc0ef296e65", func := "loop.example/g00325/laws.FnExactRefs", spec := "fnExactRefs", inPlace := ["internal/abi.NoEscape"], apart := false, narrowed := true }
def FnExactRefsUptoSaid : Prop := fnExactRefsUptoRow.holds Try.pinned (OpenSpec.upto fnExactRefsSpec)

/-- 'laws.FnExactTokensOk', WHERE WHAT IT READS IS OF BULK AT MOST 1048576: true; the input reads as it did. -/
def fnExactTokensOkUptoRow : OpenClaim := { program := "yteafgjebaedjbaa", sum := "f17c810e276dd7061b1a59353ea87db3027b6b5426bba341272b0bc0ef296e65", func := "loop.example/g00325/laws.FnExactTokensOk", spec := "fnExactTokensOk", inPlace := ["internal/abi.NoEscape", "internal/bytealg.IndexByteString", "internal/bytealg.IndexString"], unfollowed := true, recurses := true, named := ["internal/bytealg.MaxLen"], apart := false, narrowed := true }
def FnExactTokensOkUptoSaid : Prop := fnExactTokensOkUptoRow.holds Try.pinned (OpenSpec.upto fnExactTokensOkSpec)

end Rows
end Go.Proofs.Yteafgjebaedjbaa

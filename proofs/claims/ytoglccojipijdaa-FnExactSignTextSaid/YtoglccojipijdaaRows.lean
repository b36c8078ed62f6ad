/-
  No cell of these rows narrows 'for every input' (looked for: loops, veiled, ifaces, maps, wideKeys, modest, calm, conditions, laid).
  DERIVED. THE GIVEN ROWS OF THIS SEAT. 12 by the template 'for every input the law returns true; each argument reads behind the call as it read before'; 0 by the template 'total and deterministic' (their statements: YtoglccojipijdaaTotals.lean).
  GIVEN WITH THE SEED: the statements are not yours to turn. If you find one false, say at which input.
  Laid BY PROGRAM, IN A SANDBOX (cutbox-rows.mjs): the forced cells as the released guide's own fill.sh prints them over the translation 706208f99f417a5b… (all of the seat's roots in one cut). By AI agents, Wed Nov 11 2026. No macro, syntax, notation, axiom, sorry.
-/
import Derived.Test.YtoglccojipijdaaChecked
import GoSem.Claim
import GoSem.ClaimJoined
import GoSem.ClaimMapViews
import Derived.JoinedTies
import Derived.KernelRfl
namespace Go.Proofs.Ytoglccojipijdaa
/- THE CELL 'sum', in the pinned program and in every row, IS THE sha256 OF THE DUMP (.gsa) THAT YtoglccojipijdaaProg.lean LOADS. Nothing in Lean hashes anything: it is a label: what it is worth is what the hold of that sum in a sandbox is worth. -/
noncomputable def Try.pinned : Pinned := { name := "ytoglccojipijdaa", sum := "706208f99f417a5b94263b71ac6ceed145e5b73b5dbee5567b065988dd21f132", checked := Try.checked }
namespace Rows
def none {H : Type} : Left H := { results := [], args := [] }

/-- 'laws.FnExactGetSign': WHATEVER THE INPUT: true; the input reads as it did. -/
def fnExactGetSignSpec : ChangeSpec := { name := "fnExactGetSign", fn := fun _ => fun
  | [d1, d2] => { results := [.lit (.bool true)], args := [d1, d2] }
  | _ => none }
def fnExactGetSignRow : OpenClaim := { program := "ytoglccojipijdaa", sum := "706208f99f417a5b94263b71ac6ceed145e5b73b5dbee5567b065988dd21f132", func := "loop.example/g00325/laws.FnExactGetSign", spec := "fnExactGetSign", apart := false }
def FnExactGetSignSaid : Prop := fnExactGetSignRow.holds Try.pinned (OpenSpec.ofChange fnExactGetSignSpec)

/-- ITS FALSE NEIGHBOUR: 'it returns false'. Refute it at one input. -/
def fnExactGetSignWrong : ChangeSpec := { name := "fnExactGetSign", fn := fun _ => fun
  | [d1, d2] => { results := [.lit (.bool false)], args := [d1, d2] }
  | _ => none }
def FnExactGetSignWrongFalsely : Prop := fnExactGetSignRow.holds Try.pinned (OpenSpec.ofChange fnExactGetSignWrong)

/-- 'laws.FnExactSignText': WHATEVER THE INPUT: true; the input reads as it did. -/
def fnExactSignTextSpec : ChangeSpec := { name := "fnExactSignText", fn := fun _ => fun
  | [d] => { results := [.lit (.bool true)], args := [d] }
  | _ => none }
def fnExactSignTextRow : OpenClaim := { program := "ytoglccojipijdaa", sum := "706208f99f417a5b94263b71ac6ceed145e5b73b5dbee5567b065988dd21f132", func := "loop.example/g00325/laws.FnExactSignText", spec := "fnExactSignText", inPlace := ["internal/abi.NoEscape"], apart := false }
def FnExactSignTextSaid : Prop := fnExactSignTextRow.holds Try.pinned (OpenSpec.ofChange fnExactSignTextSpec)

/-- ITS FALSE NEIGHBOUR: 'it returns false'. Refute it at one input. -/
def fnExactSignTextWrong : ChangeSpec := { name := "fnExactSignText", fn := fun _ => fun
  | [d] => { results := [.lit (.bool false)], args := [d] }
  | _ => none }
def FnExactSignTextWrongFalsely : Prop := fnExactSignTextRow.holds Try.pinned (OpenSpec.ofChange fnExactSignTextWrong)

/-- 'laws.FnExactRaw': WHATEVER THE INPUT: true; the input reads as it did. -/
def fnExactRawSpec : ChangeSpec := { name := "fnExactRaw", fn := fun _ => fun
  | [d] => { results := [.lit (.bool true)], args := [d] }
  | _ => none }
def fnExactRawRow : OpenClaim := { program := "ytoglccojipijdaa", sum := "706208f99f417a5b94263b71ac6ceed145e5b73b5dbee5567b065988dd21f132", func := "loop.example/g00325/laws.FnExactRaw", spec := "fnExactRaw", inPlace := ["internal/bytealg.IndexByteString", "internal/bytealg.IndexString"], named := ["internal/bytealg.MaxLen"], apart := false }
def FnExactRawSaid : Prop := fnExactRawRow.holds Try.pinned (OpenSpec.ofChange fnExactRawSpec)

/-- ITS FALSE NEIGHBOUR: 'it returns false'. Refute it at one input. -/
def fnExactRawWrong : ChangeSpec := { name := "fnExactRaw", fn := fun _ => fun
  | [d] => { results := [.lit (.bool false)], args := [d] }
  | _ => none }
def FnExactRawWrongFalsely : Prop := fnExactRawRow.holds Try.pinned (OpenSpec.ofChange fnExactRawWrong)

/-- 'laws.FnExactHead': WHATEVER THE INPUT: true; the input reads as it did. -/
def fnExactHeadSpec : ChangeSpec := { name := "fnExactHead", fn := fun _ => fun
  | [d] => { results := [.lit (.bool true)], args := [d] }
  | _ => none }
def fnExactHeadRow : OpenClaim := { program := "ytoglccojipijdaa", sum := "706208f99f417a5b94263b71ac6ceed145e5b73b5dbee5567b065988dd21f132", func := "loop.example/g00325/laws.FnExactHead", spec := "fnExactHead", inPlace := ["internal/bytealg.IndexByteString", "internal/bytealg.IndexString"], named := ["internal/bytealg.MaxLen"], apart := false }
def FnExactHeadSaid : Prop := fnExactHeadRow.holds Try.pinned (OpenSpec.ofChange fnExactHeadSpec)

/-- ITS FALSE NEIGHBOUR: 'it returns false'. Refute it at one input. -/
def fnExactHeadWrong : ChangeSpec := { name := "fnExactHead", fn := fun _ => fun
  | [d] => { results := [.lit (.bool false)], args := [d] }
  | _ => none }
def FnExactHeadWrongFalsely : Prop := fnExactHeadRow.holds Try.pinned (OpenSpec.ofChange fnExactHeadWrong)

/-- 'laws.FnExactPart': WHATEVER THE INPUT: true; the input reads as it did. -/
def fnExactPartSpec : ChangeSpec := { name := "fnExactPart", fn := fun _ => fun
  | [d] => { results := [.lit (.bool true)], args := [d] }
  | _ => none }
def fnExactPartRow : OpenClaim := { program := "ytoglccojipijdaa", sum := "706208f99f417a5b94263b71ac6ceed145e5b73b5dbee5567b065988dd21f132", func := "loop.example/g00325/laws.FnExactPart", spec := "fnExactPart", inPlace := ["internal/bytealg.IndexByteString", "internal/bytealg.IndexString"], named := ["internal/bytealg.MaxLen"], apart := false }
def FnExactPartSaid : Prop := fnExactPartRow.holds Try.pinned (OpenSpec.ofChange fnExactPartSpec)

/-- ITS FALSE NEIGHBOUR: 'it returns false'. Refute it at one input. -/
def fnExactPartWrong : ChangeSpec := { name := "fnExactPart", fn := fun _ => fun
  | [d] => { results := [.lit (.bool false)], args := [d] }
  | _ => none }
def FnExactPartWrongFalsely : Prop := fnExactPartRow.holds Try.pinned (OpenSpec.ofChange fnExactPartWrong)

/-- 'laws.FnExactWall': WHATEVER THE INPUT: true; the input reads as it did. -/
def fnExactWallSpec : ChangeSpec := { name := "fnExactWall", fn := fun _ => fun
  | [d] => { results := [.lit (.bool true)], args := [d] }
  | _ => none }
def fnExactWallRow : OpenClaim := { program := "ytoglccojipijdaa", sum := "706208f99f417a5b94263b71ac6ceed145e5b73b5dbee5567b065988dd21f132", func := "loop.example/g00325/laws.FnExactWall", spec := "fnExactWall", inPlace := ["internal/bytealg.IndexByteString", "internal/bytealg.IndexString"], named := ["internal/bytealg.MaxLen"], apart := false }
def FnExactWallSaid : Prop := fnExactWallRow.holds Try.pinned (OpenSpec.ofChange fnExactWallSpec)

/-- ITS FALSE NEIGHBOUR: 'it returns false'. Refute it at one input. -/
def fnExactWallWrong : ChangeSpec := { name := "fnExactWall", fn := fun _ => fun
  | [d] => { results := [.lit (.bool false)], args := [d] }
  | _ => none }
def FnExactWallWrongFalsely : Prop := fnExactWallRow.holds Try.pinned (OpenSpec.ofChange fnExactWallWrong)

/-- 'laws.FnExactBlock': WHATEVER THE INPUT: true; the input reads as it did. -/
def fnExactBlockSpec : ChangeSpec := { name := "fnExactBlock", fn := fun _ => fun
  | [d] => { results := [.lit (.bool true)], args := [d] }
  | _ => none }
def fnExactBlockRow : OpenClaim := { program := "ytoglccojipijdaa", sum := "706208f99f417a5b94263b71ac6ceed145e5b73b5dbee5567b065988dd21f132", func := "loop.example/g00325/laws.FnExactBlock", spec := "fnExactBlock", inPlace := ["internal/bytealg.IndexByteString", "internal/bytealg.IndexString"], named := ["internal/bytealg.MaxLen"], apart := false }
def FnExactBlockSaid : Prop := fnExactBlockRow.holds Try.pinned (OpenSpec.ofChange fnExactBlockSpec)

/-- ITS FALSE NEIGHBOUR: 'it returns false'. Refute it at one input. -/
def fnExactBlockWrong : ChangeSpec := { name := "fnExactBlock", fn := fun _ => fun
  | [d] => { results := [.lit (.bool false)], args := [d] }
  | _ => none }
def FnExactBlockWrongFalsely : Prop := fnExactBlockRow.holds Try.pinned (OpenSpec.ofChange fnExactBlockWrong)

/-- 'laws.FnExactFormat': WHATEVER THE INPUT: true; the input reads as it did. -/
def fnExactFormatSpec : ChangeSpec := { name := "fnExactFormat", fn := fun _ => fun
  | [d] => { results := [.lit (.bool true)], args := [d] }
  | _ => none }
def fnExactFormatRow : OpenClaim := { program := "ytoglccojipijdaa", sum := "706208f99f417a5b94263b71ac6ceed145e5b73b5dbee5567b065988dd21f132", func := "loop.example/g00325/laws.FnExactFormat", spec := "fnExactFormat", inPlace := ["internal/bytealg.IndexByteString", "internal/bytealg.IndexString"], named := ["internal/bytealg.MaxLen"], apart := false }
def FnExactFormatSaid : Prop := fnExactFormatRow.holds Try.pinned (OpenSpec.ofChange fnExactFormatSpec)

/-- ITS FALSE NEIGHBOUR: 'it returns false'. Refute it at one input. -/
def fnExactFormatWrong : ChangeSpec := { name := "fnExactFormat", fn := fun _ => fun
  | [d] => { results := [.lit (.bool false)], args := [d] }
  | _ => none }
def FnExactFormatWrongFalsely : Prop := fnExactFormatRow.holds Try.pinned (OpenSpec.ofChange fnExactFormatWrong)

/-- 'laws.FnExactOfHead': WHATEVER THE INPUT: true; the input reads as it did. -/
def fnExactOfHeadSpec : ChangeSpec := { name := "fnExactOfHead", fn := fun _ => fun
  | [d] => { results := [.lit (.bool true)], args := [d] }
  | _ => none }
def fnExactOfHeadRow : OpenClaim := { program := "ytoglccojipijdaa", sum := "706208f99f417a5b94263b71ac6ceed145e5b73b5dbee5567b065988dd21f132", func := "loop.example/g00325/laws.FnExactOfHead", spec := "fnExactOfHead", inPlace := ["internal/bytealg.IndexByteString", "internal/bytealg.IndexString"], named := ["internal/bytealg.MaxLen"], apart := false }
def FnExactOfHeadSaid : Prop := fnExactOfHeadRow.holds Try.pinned (OpenSpec.ofChange fnExactOfHeadSpec)

/-- ITS FALSE NEIGHBOUR: 'it returns false'. Refute it at one input. -/
def fnExactOfHeadWrong : ChangeSpec := { name := "fnExactOfHead", fn := fun _ => fun
  | [d] => { results := [.lit (.bool false)], args := [d] }
  | _ => none }
def FnExactOfHeadWrongFalsely : Prop := fnExactOfHeadRow.holds Try.pinned (OpenSpec.ofChange fnExactOfHeadWrong)

/-- 'laws.FnExactVoid': WHATEVER THE INPUT: true; the input reads as it did. -/
def fnExactVoidSpec : ChangeSpec := { name := "fnExactVoid", fn := fun _ => fun
  | [d] => { results := [.lit (.bool true)], args := [d] }
  | _ => none }
def fnExactVoidRow : OpenClaim := { program := "ytoglccojipijdaa", sum := "706208f99f417a5b94263b71ac6ceed145e5b73b5dbee5567b065988dd21f132", func := "loop.example/g00325/laws.FnExactVoid", spec := "fnExactVoid", inPlace := ["internal/bytealg.IndexByteString", "internal/bytealg.IndexString"], named := ["internal/bytealg.MaxLen"], apart := false }
def FnExactVoidSaid : Prop := fnExactVoidRow.holds Try.pinned (OpenSpec.ofChange fnExactVoidSpec)

/-- ITS FALSE NEIGHBOUR: 'it returns false'. Refute it at one input. -/
def fnExactVoidWrong : ChangeSpec := { name := "fnExactVoid", fn := fun _ => fun
  | [d] => { results := [.lit (.bool false)], args := [d] }
  | _ => none }
def FnExactVoidWrongFalsely : Prop := fnExactVoidRow.holds Try.pinned (OpenSpec.ofChange fnExactVoidWrong)

/-- 'laws.FnExactSigns': WHATEVER THE INPUT: true; the input reads as it did. -/
def fnExactSignsSpec : ChangeSpec := { name := "fnExactSigns", fn := fun _ => fun
  | [d] => { results := [.lit (.bool true)], args := [d] }
  | _ => none }
def fnExactSignsRow : OpenClaim := { program := "ytoglccojipijdaa", sum := "706208f99f417a5b94263b71ac6ceed145e5b73b5dbee5567b065988dd21f132", func := "loop.example/g00325/laws.FnExactSigns", spec := "fnExactSigns", apart := false }
def FnExactSignsSaid : Prop := fnExactSignsRow.holds Try.pinned (OpenSpec.ofChange fnExactSignsSpec)

/-- ITS FALSE NEIGHBOUR: 'it returns false'. Refute it at one input. -/
def fnExactSignsWrong : ChangeSpec := { name := "fnExactSigns", fn := fun _ => fun
  | [d] => { results := [.lit (.bool false)], args := [d] }
  | _ => none }
def FnExactSignsWrongFalsely : Prop := fnExactSignsRow.holds Try.pinned (OpenSpec.ofChange fnExactSignsWrong)

/-- 'laws.FnExactClean': WHATEVER THE INPUT: true; the input reads as it did. -/
def fnExactCleanSpec : ChangeSpec := { name := "fnExactClean", fn := fun _ => fun
  | [d] => { results := [.lit (.bool true)], args := [d] }
  | _ => none }
def fnExactCleanRow : OpenClaim := { program := "ytoglccojipijdaa", sum := "706208f99f417a5b94263b71ac6ceed145e5b73b5dbee5567b065988dd21f132", func := "loop.example/g00325/laws.FnExactClean", spec := "fnExactClean", inPlace := ["internal/abi.NoEscape"], apart := false }
def FnExactCleanSaid : Prop := fnExactCleanRow.holds Try.pinned (OpenSpec.ofChange fnExactCleanSpec)

/-- ITS FALSE NEIGHBOUR: 'it returns false'. Refute it at one input. -/
def fnExactCleanWrong : ChangeSpec := { name := "fnExactClean", fn := fun _ => fun
  | [d] => { results := [.lit (.bool false)], args := [d] }
  | _ => none }
def FnExactCleanWrongFalsely : Prop := fnExactCleanRow.holds Try.pinned (OpenSpec.ofChange fnExactCleanWrong)

/- THE SECOND FORM. 'bulk': how many values and letters a reading holds, each counted each time it is reached (what is shared counts as often as it is met; a slice's spare places count too). A statement '..UptoSaid' is the law's where the arguments, and the package variables that the reading takes, are together of bulk at most 1048576: NARROWER than '..Said'. Prove '..Said' where nothing that the law and all that it calls make is longer than what came in: it says more and counts as full. Else prove '..UptoSaid'. A law counts once. -/
mutual
def uptoBulk {H : Type} : DataW H → Nat
  | .lit (.string bytes) => bytes.length + 1
  | .lit _ => 1
  | .nil => 1
  | .ptr d => uptoBulk d + 1
  | .slice elems spare => uptoBulkAll elems + uptoBulkAll spare + 1
  | .agg parts => uptoBulkAll parts + 1
  | .iface _ d => uptoBulk d + 1
  | .map entries => uptoBulkEntries entries + 1
  | .held _ => 1
def uptoBulkAll {H : Type} : List (DataW H) → Nat
  | [] => 0
  | d :: r => uptoBulk d + uptoBulkAll r
def uptoBulkEntries {H : Type} : List (Lit × DataW H) → Nat
  | [] => 0
  | x :: r => uptoBulkEntry x + uptoBulkEntries r
def uptoBulkEntry {H : Type} : Lit × DataW H → Nat
  | (.string bytes, d) => bytes.length + uptoBulk d + 1
  | (_, d) => uptoBulk d + 1
 end
def uptoSmall : (H : Type) → List (DataW H) → Bool := fun _ ds => decide (uptoBulkAll ds ≤ 1048576)
def OpenSpec.upto (s : _root_.Go.ChangeSpec) : _root_.Go.OpenSpec := { _root_.Go.OpenSpec.ofChange s with cond := some uptoSmall }

/-- 'laws.FnExactGetSign', WHERE WHAT IT READS IS OF BULK AT MOST 1048576: true; the input reads as it did. -/
def fnExactGetSignUptoRow : OpenClaim := { program := "ytoglccojipijdaa", sum := "706208f99f417a5b94263b71ac6ceed145e5b73b5dbee5567b065988dd21f132", func := "loop.example/g00325/laws.FnExactGetSign", spec := "fnExactGetSign", apart := false, narrowed := true }
def FnExactGetSignUptoSaid : Prop := fnExactGetSignUptoRow.holds Try.pinned (OpenSpec.upto fnExactGetSignSpec)

/-- 'laws.FnExactSignText', WHERE WHAT IT READS IS OF BULK AT MOST 1048576: true; the input reads as it did. -/
def fnExactSignTextUptoRow : OpenClaim := { program := "ytoglccojipijdaa", sum := "706208f99f417a5b94263b71ac6ceed145e5b73b5dbee5567b065988dd21f132", func := "loop.example/g00325/laws.FnExactSignText", spec := "fnExactSignText", inPlace := ["internal/abi.NoEscape"], apart := false, narrowed := true }
def FnExactSignTextUptoSaid : Prop := fnExactSignTextUptoRow.holds Try.pinned (OpenSpec.upto fnExactSignTextSpec)

/-- 'laws.FnExactRaw', WHERE WHAT IT READS IS OF BULK AT MOST 1048576: true; the input reads as it did. -/
def fnExactRawUptoRow : OpenClaim := { program := "ytoglccojipijdaa", sum := "706208f99f417a5b94263b71ac6ceed145e5b73b5dbee5567b065988dd21f132", func := "loop.example/g00325/laws.FnExactRaw", spec := "fnExactRaw", inPlace := ["internal/bytealg.IndexByteString", "internal/bytealg.IndexString"], named := ["internal/bytealg.MaxLen"], apart := false, narrowed := true }
def FnExactRawUptoSaid : Prop := fnExactRawUptoRow.holds Try.pinned (OpenSpec.upto fnExactRawSpec)

/-- 'laws.FnExactHead', WHERE WHAT IT READS IS OF BULK AT MOST 1048576: true; the input reads as it did. -/
def fnExactHeadUptoRow : OpenClaim := { program := "ytoglccojipijdaa", sum := "706208f99f417a5b94263b71ac6ceed145e5b73b5dbee5567b065988dd21f132", func := "loop.example/g00325/laws.FnExactHead", spec := "fnExactHead", inPlace := ["internal/bytealg.IndexByteString", "internal/bytealg.IndexString"], named := ["internal/bytealg.MaxLen"], apart := false, narrowed := true }
def FnExactHeadUptoSaid : Prop := fnExactHeadUptoRow.holds Try.pinned (OpenSpec.upto fnExactHeadSpec)

/-- 'laws.FnExactPart', WHERE WHAT IT READS IS OF BULK AT MOST 1048576: true; the input reads as it did. -/
def fnExactPartUptoRow : OpenClaim := { program := "ytoglccojipijdaa", sum := "706208f99f417a5b94263b71ac6ceed145e5b73b5dbee5567b065988dd21f132", func := "loop.example/g00325/laws.FnExactPart", spec := "fnExactPart", inPlace := ["internal/bytealg.IndexByteString", "internal/bytealg.IndexString"], named := ["internal/bytealg.MaxLen"], apart := false, narrowed := true }
def FnExactPartUptoSaid : Prop := fnExactPartUptoRow.holds Try.pinned (OpenSpec.upto fnExactPartSpec)

/-- 'laws.FnExactWall', WHERE WHAT IT READS IS OF BULK AT MOST 1048576: true; the input reads as it did. -/
def fnExactWallUptoRow : OpenClaim := { program := "ytoglccojipijdaa", sum := "706208f99f417a5b94263b71ac6ceed145e5b73b5dbee5567b065988dd21f132", func := "loop.example/g00325/laws.FnExactWall", spec := "fnExactWall", inPlace := ["internal/bytealg.IndexByteString", "internal/bytealg.IndexString"], named := ["internal/bytealg.MaxLen"], apart := false, narrowed := true }
def FnExactWallUptoSaid : Prop := fnExactWallUptoRow.holds Try.pinned (OpenSpec.upto fnExactWallSpec)

/-- 'laws.FnExactBlock', WHERE WHAT IT READS IS OF BULK AT MOST 1048576: true; the input reads as it did. -/
def fnExactBlockUptoRow : OpenClaim := { program := "ytoglccojipijdaa", sum := "706208f99f417a5b94263b71ac6ceed145e5b73b5dbee5567b065988dd21f132", func := "loop.example/g00325/laws.FnExactBlock", spec := "fnExactBlock", inPlace := ["internal/bytealg.IndexByteString", "internal/bytealg.IndexString"], named := ["internal/bytealg.MaxLen"], apart := false, narrowed := true }
def FnExactBlockUptoSaid : Prop := fnExactBlockUptoRow.holds Try.pinned (OpenSpec.upto fnExactBlockSpec)

/-- 'laws.FnExactFormat', WHERE WHAT IT READS IS OF BULK AT MOST 1048576: true; the input reads as it did. -/
def fnExactFormatUptoRow : OpenClaim := { program := "ytoglccojipijdaa", sum := "706208f99f417a5b94263b71ac6ceed145e5b73b5dbee5567b065988dd21f132", func := "loop.example/g00325/laws.FnExactFormat", spec := "fnExactFormat", inPlace := ["internal/bytealg.IndexByteString", "internal/bytealg.IndexString"], named := ["internal/bytealg.MaxLen"], apart := false, narrowed := true }
def FnExactFormatUptoSaid : Prop := fnExactFormatUptoRow.holds Try.pinned (OpenSpec.upto fnExactFormatSpec)

/-- 'laws.FnExactOfHead', WHERE WHAT IT READS IS OF BULK AT MOST 1048576: true; the input reads as it did. -/
def fnExactOfHeadUptoRow : OpenClaim := { program := "ytoglccojipijdaa", sum := "706208f99f417a5b94263b71ac6ceed145e5b73b5dbee5567b065988dd21f132", func := "loop.example/g00325/laws.FnExactOfHead", spec := "fnExactOfHead", inPlace := ["internal/bytealg.IndexByteString", "internal/bytealg.IndexString"], named := ["internal/bytealg.MaxLen"], apart := false, narrowed := true }
def FnExactOfHeadUptoSaid : Prop := fnExactOfHeadUptoRow.holds Try.pinned (OpenSpec.upto fnExactOfHeadSpec)

/-- 'laws.FnExactVoid', WHERE WHAT IT READS IS OF BULK AT MOST 1048576: true; the input reads as it did. -/
def fnExactVoidUptoRow : OpenClaim := { program := "ytoglccojipijdaa", sum := "706208f99f417a5b94263b71ac6ceed145e5b73b5dbee5567b065988dd21f132", func := "loop.example/g00325/laws.FnExactVoid", spec := "fnExactVoid", inPlace := ["internal/bytealg.IndexByteString", "internal/bytealg.IndexString"], named := ["internal/bytealg.MaxLen"], apart := false, narrowed := true }
def FnExactVoidUptoSaid : Prop := fnExactVoidUptoRow.holds Try.pinned (OpenSpec.upto fnExactVoidSpec)

/-- 'laws.FnExactSigns', WHERE WHAT IT READS IS OF BULK AT MOST 1048576: true; the input reads as it did. -/
def fnExactSignsUptoRow : OpenClaim := { program := "ytoglccojipijdaa", sum := "706208f99f417a5b94263b71ac6ceed145e5b73b5dbee5567b065988dd21f132", func := "loop.example/g00325/laws.FnExactSigns", spec := "fnExactSigns", apart := false, narrowed := true }
def FnExactSignsUptoSaid : Prop := fnExactSignsUptoRow.holds Try.pinned (OpenSpec.upto fnExactSignsSpec)

/-- 'laws.FnExactClean', WHERE WHAT IT READS IS OF BULK AT MOST 1048576: true; the input reads as it did. -/
def fnExactCleanUptoRow : OpenClaim := { program := "ytoglccojipijdaa", sum := "706208f99f417a5b94263b71ac6ceed145e5b73b5dbee5567b065988dd21f132", func := "loop.example/g00325/laws.FnExactClean", spec := "fnExactClean", inPlace := ["internal/abi.NoEscape"], apart := false, narrowed := true }
def FnExactCleanUptoSaid : Prop := fnExactCleanUptoRow.holds Try.pinned (OpenSpec.upto fnExactCleanSpec)

end Rows
end Go.Proofs.Ytoglccojipijdaa

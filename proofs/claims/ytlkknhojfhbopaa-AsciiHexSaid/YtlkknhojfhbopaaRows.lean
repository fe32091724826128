/-
  No cell of these rows narrows 'for every input' (looked for: loops, veiled, ifaces, maps, wideKeys, modest, calm, conditions, laid).
  DERIVED. THE GIVEN ROWS OF THIS SEAT. 8 by the template 'for every input the law returns true; each argument reads behind the call as it read before'; 0 by the template 'total and deterministic' (their statements: YtlkknhojfhbopaaTotals.lean).
  GIVEN WITH THE SEED: the statements are not yours to turn. If you find one false, say at which input.
  Laid BY PROGRAM, IN A SANDBOX (cutbox-rows.mjs): the forced cells as the released guide's own fill.sh prints them over the translation c13f652e20bd3c2d… (all of the seat's roots in one cut). By AI agents, Wed Nov 11 2026. No macro, syntax, notation, axiom, sorry.
-/
import Derived.Test.YtlkknhojfhbopaaChecked
import GoSem.Claim
import GoSem.ClaimJoined
import GoSem.ClaimMapViews
import Derived.JoinedTies
import Derived.KernelRfl
namespace Go.Proofs.Ytlkknhojfhbopaa
/- THE CELL 'sum', in the pinned program and in every row, IS THE sha256 OF THE DUMP (.gsa) THAT YtlkknhojfhbopaaProg.lean LOADS. Nothing in Lean hashes anything: it is a label: what it is worth is what the hold of that sum in a sandbox is worth. -/
noncomputable def Try.pinned : Pinned := { name := "ytlkknhojfhbopaa", sum := "c13f652e20bd3c2d10efd953031454248029f9fbb2e71024acdd3c2eea29c14e", checked := Try.checked }
namespace Rows
def none {H : Type} : Left H := { results := [], args := [] }

/-- 'crossroadlaw01.AsciiTokens': WHATEVER THE INPUT: true; the input reads as it did. -/
def asciiTokensSpec : ChangeSpec := { name := "asciiTokens", fn := fun _ => fun
  | [d] => { results := [.lit (.bool true)], args := [d] }
  | _ => none }
def asciiTokensRow : OpenClaim := { program := "ytlkknhojfhbopaa", sum := "c13f652e20bd3c2d10efd953031454248029f9fbb2e71024acdd3c2eea29c14e", func := "crossroad/crossroadlaw01.AsciiTokens", spec := "asciiTokens", apart := false }
def AsciiTokensSaid : Prop := asciiTokensRow.holds Try.pinned (OpenSpec.ofChange asciiTokensSpec)

/-- ITS FALSE NEIGHBOUR: 'it returns false'. Refute it at one input. -/
def asciiTokensWrong : ChangeSpec := { name := "asciiTokens", fn := fun _ => fun
  | [d] => { results := [.lit (.bool false)], args := [d] }
  | _ => none }
def AsciiTokensWrongFalsely : Prop := asciiTokensRow.holds Try.pinned (OpenSpec.ofChange asciiTokensWrong)

/-- 'crossroadlaw01.AsciiNumbers': WHATEVER THE INPUT: true; the input reads as it did. -/
def asciiNumbersSpec : ChangeSpec := { name := "asciiNumbers", fn := fun _ => fun
  | [d1, d2] => { results := [.lit (.bool true)], args := [d1, d2] }
  | _ => none }
def asciiNumbersRow : OpenClaim := { program := "ytlkknhojfhbopaa", sum := "c13f652e20bd3c2d10efd953031454248029f9fbb2e71024acdd3c2eea29c14e", func := "crossroad/crossroadlaw01.AsciiNumbers", spec := "asciiNumbers", apart := false }
def AsciiNumbersSaid : Prop := asciiNumbersRow.holds Try.pinned (OpenSpec.ofChange asciiNumbersSpec)

/-- ITS FALSE NEIGHBOUR: 'it returns false'. Refute it at one input. -/
def asciiNumbersWrong : ChangeSpec := { name := "asciiNumbers", fn := fun _ => fun
  | [d1, d2] => { results := [.lit (.bool false)], args := [d1, d2] }
  | _ => none }
def AsciiNumbersWrongFalsely : Prop := asciiNumbersRow.holds Try.pinned (OpenSpec.ofChange asciiNumbersWrong)

/-- 'crossroadlaw01.AsciiWords': WHATEVER THE INPUT: true; the input reads as it did. -/
def asciiWordsSpec : ChangeSpec := { name := "asciiWords", fn := fun _ => fun
  | [d1, d2] => { results := [.lit (.bool true)], args := [d1, d2] }
  | _ => none }
def asciiWordsRow : OpenClaim := { program := "ytlkknhojfhbopaa", sum := "c13f652e20bd3c2d10efd953031454248029f9fbb2e71024acdd3c2eea29c14e", func := "crossroad/crossroadlaw01.AsciiWords", spec := "asciiWords", apart := false }
def AsciiWordsSaid : Prop := asciiWordsRow.holds Try.pinned (OpenSpec.ofChange asciiWordsSpec)

/-- ITS FALSE NEIGHBOUR: 'it returns false'. Refute it at one input. -/
def asciiWordsWrong : ChangeSpec := { name := "asciiWords", fn := fun _ => fun
  | [d1, d2] => { results := [.lit (.bool false)], args := [d1, d2] }
  | _ => none }
def AsciiWordsWrongFalsely : Prop := asciiWordsRow.holds Try.pinned (OpenSpec.ofChange asciiWordsWrong)

/-- 'crossroadlaw01.AsciiParts': WHATEVER THE INPUT: true; the input reads as it did. -/
def asciiPartsSpec : ChangeSpec := { name := "asciiParts", fn := fun _ => fun
  | [d1, d2] => { results := [.lit (.bool true)], args := [d1, d2] }
  | _ => none }
def asciiPartsRow : OpenClaim := { program := "ytlkknhojfhbopaa", sum := "c13f652e20bd3c2d10efd953031454248029f9fbb2e71024acdd3c2eea29c14e", func := "crossroad/crossroadlaw01.AsciiParts", spec := "asciiParts", apart := false }
def AsciiPartsSaid : Prop := asciiPartsRow.holds Try.pinned (OpenSpec.ofChange asciiPartsSpec)

/-- ITS FALSE NEIGHBOUR: 'it returns false'. Refute it at one input. -/
def asciiPartsWrong : ChangeSpec := { name := "asciiParts", fn := fun _ => fun
  | [d1, d2] => { results := [.lit (.bool false)], args := [d1, d2] }
  | _ => none }
def AsciiPartsWrongFalsely : Prop := asciiPartsRow.holds Try.pinned (OpenSpec.ofChange asciiPartsWrong)

/-- 'crossroadlaw01.AsciiTrims': WHATEVER THE INPUT: true; the input reads as it did. -/
def asciiTrimsSpec : ChangeSpec := { name := "asciiTrims", fn := fun _ => fun
  | [d1, d2, d3] => { results := [.lit (.bool true)], args := [d1, d2, d3] }
  | _ => none }
def asciiTrimsRow : OpenClaim := { program := "ytlkknhojfhbopaa", sum := "c13f652e20bd3c2d10efd953031454248029f9fbb2e71024acdd3c2eea29c14e", func := "crossroad/crossroadlaw01.AsciiTrims", spec := "asciiTrims", apart := false }
def AsciiTrimsSaid : Prop := asciiTrimsRow.holds Try.pinned (OpenSpec.ofChange asciiTrimsSpec)

/-- ITS FALSE NEIGHBOUR: 'it returns false'. Refute it at one input. -/
def asciiTrimsWrong : ChangeSpec := { name := "asciiTrims", fn := fun _ => fun
  | [d1, d2, d3] => { results := [.lit (.bool false)], args := [d1, d2, d3] }
  | _ => none }
def AsciiTrimsWrongFalsely : Prop := asciiTrimsRow.holds Try.pinned (OpenSpec.ofChange asciiTrimsWrong)

/-- 'crossroadlaw01.AsciiJoins': WHATEVER THE INPUT: true; the input reads as it did. -/
def asciiJoinsSpec : ChangeSpec := { name := "asciiJoins", fn := fun _ => fun
  | [d1, d2, d3] => { results := [.lit (.bool true)], args := [d1, d2, d3] }
  | _ => none }
def asciiJoinsRow : OpenClaim := { program := "ytlkknhojfhbopaa", sum := "c13f652e20bd3c2d10efd953031454248029f9fbb2e71024acdd3c2eea29c14e", func := "crossroad/crossroadlaw01.AsciiJoins", spec := "asciiJoins", apart := false }
def AsciiJoinsSaid : Prop := asciiJoinsRow.holds Try.pinned (OpenSpec.ofChange asciiJoinsSpec)

/-- ITS FALSE NEIGHBOUR: 'it returns false'. Refute it at one input. -/
def asciiJoinsWrong : ChangeSpec := { name := "asciiJoins", fn := fun _ => fun
  | [d1, d2, d3] => { results := [.lit (.bool false)], args := [d1, d2, d3] }
  | _ => none }
def AsciiJoinsWrongFalsely : Prop := asciiJoinsRow.holds Try.pinned (OpenSpec.ofChange asciiJoinsWrong)

/-- 'crossroadlaw01.AsciiHex': WHATEVER THE INPUT: true; the input reads as it did. -/
def asciiHexSpec : ChangeSpec := { name := "asciiHex", fn := fun _ => fun
  | [d1, d2] => { results := [.lit (.bool true)], args := [d1, d2] }
  | _ => none }
def asciiHexRow : OpenClaim := { program := "ytlkknhojfhbopaa", sum := "c13f652e20bd3c2d10efd953031454248029f9fbb2e71024acdd3c2eea29c14e", func := "crossroad/crossroadlaw01.AsciiHex", spec := "asciiHex", apart := false }
def AsciiHexSaid : Prop := asciiHexRow.holds Try.pinned (OpenSpec.ofChange asciiHexSpec)

/-- ITS FALSE NEIGHBOUR: 'it returns false'. Refute it at one input. -/
def asciiHexWrong : ChangeSpec := { name := "asciiHex", fn := fun _ => fun
  | [d1, d2] => { results := [.lit (.bool false)], args := [d1, d2] }
  | _ => none }
def AsciiHexWrongFalsely : Prop := asciiHexRow.holds Try.pinned (OpenSpec.ofChange asciiHexWrong)

/-- 'crossroadlaw01.AsciiValues': WHATEVER THE INPUT: true; the input reads as it did. -/
def asciiValuesSpec : ChangeSpec := { name := "asciiValues", fn := fun _ => fun
  | [d] => { results := [.lit (.bool true)], args := [d] }
  | _ => none }
def asciiValuesRow : OpenClaim := { program := "ytlkknhojfhbopaa", sum := "c13f652e20bd3c2d10efd953031454248029f9fbb2e71024acdd3c2eea29c14e", func := "crossroad/crossroadlaw01.AsciiValues", spec := "asciiValues", apart := false }
def AsciiValuesSaid : Prop := asciiValuesRow.holds Try.pinned (OpenSpec.ofChange asciiValuesSpec)

/-- ITS FALSE NEIGHBOUR: 'it returns false'. Refute it at one input. -/
def asciiValuesWrong : ChangeSpec := { name := "asciiValues", fn := fun _ => fun
  | [d] => { results := [.lit (.bool false)], args := [d] }
  | _ => none }
def AsciiValuesWrongFalsely : Prop := asciiValuesRow.holds Try.pinned (OpenSpec.ofChange asciiValuesWrong)

/- THE SECOND FORM. 'bulk': how many values and letters a reading holds, each counted each time it is reached (what is shared counts as often as it is met; a slice's spare places count too). A statement '..UptoSaid' is the law's where the arguments, and the package variables that the reading takes, are together of bulk at most 1048576: NARROWER than '..Said'. Prove '..Said' where nothing that the law and all that it calls make is longer than what came in: it says more and counts as full. Else prove '..UptoSaid'. A law counts once. -/
mutual
def uptoBulk {H : Type} : DataW H → Nat
  | .lit (.string bytes) => bytes.length + 1
  | .lit _ => 1
  | .nil => 1
  | .ptr d => uptoBulk d + 1
  | .slice elems spare => uptoBulkAll elems + uptoBulkAll spare + 1
  | .agg parts => uptoBulkAll parts + 1
  | .iface _ d => uptoBulk d + 1
  | .map entries => uptoBulkEntries entries + 1
  | .held _ => 1
def uptoBulkAll {H : Type} : List (DataW H) → Nat
  | [] => 0
  | d :: r => uptoBulk d + uptoBulkAll r
def uptoBulkEntries {H : Type} : List (Lit × DataW H) → Nat
  | [] => 0
  | x :: r => uptoBulkEntry x + uptoBulkEntries r
def uptoBulkEntry {H : Type} : Lit × DataW H → Nat
  | (.string bytes, d) => bytes.length + uptoBulk d + 1
  | (_, d) => uptoBulk d + 1
 end
def uptoSmall : (H : Type) → List (DataW H) → Bool := fun _ ds => decide (uptoBulkAll ds ≤ 1048576)
def OpenSpec.upto (s : _root_.Go.ChangeSpec) : _root_.Go.OpenSpec := { _root_.Go.OpenSpec.ofChange s with cond := some uptoSmall }

/-- 'crossroadlaw01.AsciiTokens', WHERE WHAT IT READS IS OF BULK AT MOST 1048576: true; the input reads as it did. -/
def asciiTokensUptoRow : OpenClaim := { program := "ytlkknhojfhbopaa", sum := "c13f652e20bd3c2d10efd953031454248029f9fbb2e71024acdd3c2eea29c14e", func := "crossroad/crossroadlaw01.AsciiTokens", spec := "asciiTokens", apart := false, narrowed := true }
def AsciiTokensUptoSaid : Prop := asciiTokensUptoRow.holds Try.pinned (OpenSpec.upto asciiTokensSpec)

/-- 'crossroadlaw01.AsciiNumbers', WHERE WHAT IT READS IS OF BULK AT MOST 1048576: true; the input reads as it did. -/
def asciiNumbersUptoRow : OpenClaim := { program := "ytlkknhojfhbopaa", sum := "c13f652e20bd3c2d10efd953031454248029f9fbb2e71024acdd3c2eea29c14e", func := "crossroad/crossroadlaw01.AsciiNumbers", spec := "asciiNumbers", apart := false, narrowed := true }
def AsciiNumbersUptoSaid : Prop := asciiNumbersUptoRow.holds Try.pinned (OpenSpec.upto asciiNumbersSpec)

/-- 'crossroadlaw01.AsciiWords', WHERE WHAT IT READS IS OF BULK AT MOST 1048576: true; the input reads as it did. -/
def asciiWordsUptoRow : OpenClaim := { program := "ytlkknhojfhbopaa", sum := "c13f652e20bd3c2d10efd953031454248029f9fbb2e71024acdd3c2eea29c14e", func := "crossroad/crossroadlaw01.AsciiWords", spec := "asciiWords", apart := false, narrowed := true }
def AsciiWordsUptoSaid : Prop := asciiWordsUptoRow.holds Try.pinned (OpenSpec.upto asciiWordsSpec)

/-- 'crossroadlaw01.AsciiParts', WHERE WHAT IT READS IS OF BULK AT MOST 1048576: true; the input reads as it did. -/
def asciiPartsUptoRow : OpenClaim := { program := "ytlkknhojfhbopaa", sum := "c13f652e20bd3c2d10efd953031454248029f9fbb2e71024acdd3c2eea29c14e", func := "crossroad/crossroadlaw01.AsciiParts", spec := "asciiParts", apart := false, narrowed := true }
def AsciiPartsUptoSaid : Prop := asciiPartsUptoRow.holds Try.pinned (OpenSpec.upto asciiPartsSpec)

/-- 'crossroadlaw01.AsciiTrims', WHERE WHAT IT READS IS OF BULK AT MOST 1048576: true; the input reads as it did. -/
def asciiTrimsUptoRow : OpenClaim := { program := "ytlkknhojfhbopaa", sum := "c13f652e20bd3c2d10efd953031454248029f9fbb2e71024acdd3c2eea29c14e", func := "crossroad/crossroadlaw01.AsciiTrims", spec := "asciiTrims", apart := false, narrowed := true }
def AsciiTrimsUptoSaid : Prop := asciiTrimsUptoRow.holds Try.pinned (OpenSpec.upto asciiTrimsSpec)

/-- 'crossroadlaw01.AsciiJoins', WHERE WHAT IT READS IS OF BULK AT MOST 1048576: true; the input reads as it did. -/
def asciiJoinsUptoRow : OpenClaim := { program := "ytlkknhojfhbopaa", sum := "c13f652e20bd3c2d10efd953031454248029f9fbb2e71024acdd3c2eea29c14e", func := "crossroad/crossroadlaw01.AsciiJoins", spec := "asciiJoins", apart := false, narrowed := true }
def AsciiJoinsUptoSaid : Prop := asciiJoinsUptoRow.holds Try.pinned (OpenSpec.upto asciiJoinsSpec)

/-- 'crossroadlaw01.AsciiHex', WHERE WHAT IT READS IS OF BULK AT MOST 1048576: true; the input reads as it did. -/
def asciiHexUptoRow : OpenClaim := { program := "ytlkknhojfhbopaa", sum := "c13f652e20bd3c2d10efd953031454248029f9fbb2e71024acdd3c2eea29c14e", func := "crossroad/crossroadlaw01.AsciiHex", spec := "asciiHex", apart := false, narrowed := true }
def AsciiHexUptoSaid : Prop := asciiHexUptoRow.holds Try.pinned (OpenSpec.upto asciiHexSpec)

/-- 'crossroadlaw01.AsciiValues', WHERE WHAT IT READS IS OF BULK AT MOST 1048576: true; the input reads as it did. -/
def asciiValuesUptoRow : OpenClaim := { program := "ytlkknhojfhbopaa", sum := "c13f652e20bd3c2d10efd953031454248029f9fbb2e71024acdd3c2eea29c14e", func := "crossroad/crossroadlaw01.AsciiValues", spec := "asciiValues", apart := false, narrowed := true }
def AsciiValuesUptoSaid : Prop := asciiValuesUptoRow.holds Try.pinned (OpenSpec.upto asciiValuesSpec)

end Rows
end Go.Proofs.Ytlkknhojfhbopaa

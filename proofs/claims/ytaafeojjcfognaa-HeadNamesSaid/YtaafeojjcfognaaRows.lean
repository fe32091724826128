/-
  No cell of these rows narrows 'for every input' (looked for: loops, veiled, ifaces, maps, wideKeys, modest, calm, conditions, laid).
  DERIVED. THE GIVEN ROWS OF THIS SEAT. 6 by the template 'for every input the law returns true; each argument reads behind the call as it read before'; 0 by the template 'total and deterministic' (their statements: YtaafeojjcfognaaTotals.lean).
  GIVEN WITH THE SEED: the statements are not yours to turn. If you find one false, say at which input.
  Laid BY PROGRAM, IN A SANDBOX (cutbox-rows.mjs): the forced cells as the released guide's own fill.sh prints them over the translation 390b22e619bfd520… (all of the seat's roots in one cut). By AI agents, Wed Nov 11 2026. No macro, syntax, notation, axiom, sorry.
-/
import Derived.Test.YtaafeojjcfognaaChecked
import GoSem.Claim
import GoSem.ClaimJoined
import GoSem.ClaimMapViews
import Derived.JoinedTies
import Derived.KernelRfl
namespace Go.Proofs.Ytaafeojjcfognaa
/- THE CELL 'sum', in the pinned program and in every row, IS THE sha256 OF THE DUMP (.gsa) THAT YtaafeojjcfognaaProg.lean LOADS. Nothing in Lean hashes anything: it is a label: what it is worth is what the hold of that sum in a sandbox is worth. -/
noncomputable def Try.pinned : Pinned := { name := "ytaafeojjcfognaa", sum := "390b22e619bfd5201f5b4abe7786c83814e17219e9b035347d525b7d568748d6", checked := Try.checked }
namespace Rows
def none {H : Type} : Left H := { results := [], args := [] }

/-- 'crossroadlaw02.HeadFields': WHATEVER THE INPUT: true; the input reads as it did. -/
def headFieldsSpec : ChangeSpec := { name := "headFields", fn := fun _ => fun
  | [d1, d2] => { results := [.lit (.bool true)], args := [d1, d2] }
  | _ => none }
def headFieldsRow : OpenClaim := { program := "ytaafeojjcfognaa", sum := "390b22e619bfd5201f5b4abe7786c83814e17219e9b035347d525b7d568748d6", func := "crossroad/crossroadlaw02.HeadFields", spec := "headFields", apart := false }
def HeadFieldsSaid : Prop := headFieldsRow.holds Try.pinned (OpenSpec.ofChange headFieldsSpec)

/-- ITS FALSE NEIGHBOUR: 'it returns false'. Refute it at one input. -/
def headFieldsWrong : ChangeSpec := { name := "headFields", fn := fun _ => fun
  | [d1, d2] => { results := [.lit (.bool false)], args := [d1, d2] }
  | _ => none }
def HeadFieldsWrongFalsely : Prop := headFieldsRow.holds Try.pinned (OpenSpec.ofChange headFieldsWrong)

/-- 'crossroadlaw02.HeadMany': WHATEVER THE INPUT: true; the input reads as it did. -/
def headManySpec : ChangeSpec := { name := "headMany", fn := fun _ => fun
  | [d1, d2] => { results := [.lit (.bool true)], args := [d1, d2] }
  | _ => none }
def headManyRow : OpenClaim := { program := "ytaafeojjcfognaa", sum := "390b22e619bfd5201f5b4abe7786c83814e17219e9b035347d525b7d568748d6", func := "crossroad/crossroadlaw02.HeadMany", spec := "headMany", apart := false }
def HeadManySaid : Prop := headManyRow.holds Try.pinned (OpenSpec.ofChange headManySpec)

/-- ITS FALSE NEIGHBOUR: 'it returns false'. Refute it at one input. -/
def headManyWrong : ChangeSpec := { name := "headMany", fn := fun _ => fun
  | [d1, d2] => { results := [.lit (.bool false)], args := [d1, d2] }
  | _ => none }
def HeadManyWrongFalsely : Prop := headManyRow.holds Try.pinned (OpenSpec.ofChange headManyWrong)

/-- 'crossroadlaw02.HeadFirst': WHATEVER THE INPUT: true; the input reads as it did. -/
def headFirstSpec : ChangeSpec := { name := "headFirst", fn := fun _ => fun
  | [d1, d2, d3] => { results := [.lit (.bool true)], args := [d1, d2, d3] }
  | _ => none }
def headFirstRow : OpenClaim := { program := "ytaafeojjcfognaa", sum := "390b22e619bfd5201f5b4abe7786c83814e17219e9b035347d525b7d568748d6", func := "crossroad/crossroadlaw02.HeadFirst", spec := "headFirst", apart := false }
def HeadFirstSaid : Prop := headFirstRow.holds Try.pinned (OpenSpec.ofChange headFirstSpec)

/-- ITS FALSE NEIGHBOUR: 'it returns false'. Refute it at one input. -/
def headFirstWrong : ChangeSpec := { name := "headFirst", fn := fun _ => fun
  | [d1, d2, d3] => { results := [.lit (.bool false)], args := [d1, d2, d3] }
  | _ => none }
def HeadFirstWrongFalsely : Prop := headFirstRow.holds Try.pinned (OpenSpec.ofChange headFirstWrong)

/-- 'crossroadlaw02.HeadClose': WHATEVER THE INPUT: true; the input reads as it did. -/
def headCloseSpec : ChangeSpec := { name := "headClose", fn := fun _ => fun
  | [d] => { results := [.lit (.bool true)], args := [d] }
  | _ => none }
def headCloseRow : OpenClaim := { program := "ytaafeojjcfognaa", sum := "390b22e619bfd5201f5b4abe7786c83814e17219e9b035347d525b7d568748d6", func := "crossroad/crossroadlaw02.HeadClose", spec := "headClose", apart := false }
def HeadCloseSaid : Prop := headCloseRow.holds Try.pinned (OpenSpec.ofChange headCloseSpec)

/-- ITS FALSE NEIGHBOUR: 'it returns false'. Refute it at one input. -/
def headCloseWrong : ChangeSpec := { name := "headClose", fn := fun _ => fun
  | [d] => { results := [.lit (.bool false)], args := [d] }
  | _ => none }
def HeadCloseWrongFalsely : Prop := headCloseRow.holds Try.pinned (OpenSpec.ofChange headCloseWrong)

/-- 'crossroadlaw02.HeadLengths': WHATEVER THE INPUT: true; the input reads as it did. -/
def headLengthsSpec : ChangeSpec := { name := "headLengths", fn := fun _ => fun
  | [d1, d2, d3] => { results := [.lit (.bool true)], args := [d1, d2, d3] }
  | _ => none }
def headLengthsRow : OpenClaim := { program := "ytaafeojjcfognaa", sum := "390b22e619bfd5201f5b4abe7786c83814e17219e9b035347d525b7d568748d6", func := "crossroad/crossroadlaw02.HeadLengths", spec := "headLengths", apart := false }
def HeadLengthsSaid : Prop := headLengthsRow.holds Try.pinned (OpenSpec.ofChange headLengthsSpec)

/-- ITS FALSE NEIGHBOUR: 'it returns false'. Refute it at one input. -/
def headLengthsWrong : ChangeSpec := { name := "headLengths", fn := fun _ => fun
  | [d1, d2, d3] => { results := [.lit (.bool false)], args := [d1, d2, d3] }
  | _ => none }
def HeadLengthsWrongFalsely : Prop := headLengthsRow.holds Try.pinned (OpenSpec.ofChange headLengthsWrong)

/-- 'crossroadlaw02.HeadNames': WHATEVER THE INPUT: true; the input reads as it did. -/
def headNamesSpec : ChangeSpec := { name := "headNames", fn := fun _ => fun
  | [d1, d2] => { results := [.lit (.bool true)], args := [d1, d2] }
  | _ => none }
def headNamesRow : OpenClaim := { program := "ytaafeojjcfognaa", sum := "390b22e619bfd5201f5b4abe7786c83814e17219e9b035347d525b7d568748d6", func := "crossroad/crossroadlaw02.HeadNames", spec := "headNames", apart := false }
def HeadNamesSaid : Prop := headNamesRow.holds Try.pinned (OpenSpec.ofChange headNamesSpec)

/-- ITS FALSE NEIGHBOUR: 'it returns false'. Refute it at one input. -/
def headNamesWrong : ChangeSpec := { name := "headNames", fn := fun _ => fun
  | [d1, d2] => { results := [.lit (.bool false)], args := [d1, d2] }
  | _ => none }
def HeadNamesWrongFalsely : Prop := headNamesRow.holds Try.pinned (OpenSpec.ofChange headNamesWrong)

/- THE SECOND FORM. 'bulk': how many values and letters a reading holds, each counted each time it is reached (what is shared counts as often as it is met; a slice's spare places count too). A statement '..UptoSaid' is the law's where the arguments, and the package variables that the reading takes, are together of bulk at most 1048576: NARROWER than '..Said'. Prove '..Said' where nothing that the law and all that it calls make is longer than what came in: it says more and counts as full. Else prove '..UptoSaid'. A law counts once. -/
mutual
def uptoBulk {H : Type} : DataW H → Nat
  | .lit (.string bytes) => bytes.length + 1
  | .lit _ => 1
  | .nil => 1
  | .ptr d => uptoBulk d + 1
  | .slice elems spare => uptoBulkAll elems + uptoBulkAll spare + 1
  | .agg parts => uptoBulkAll parts + 1
  | .iface _ d => uptoBulk d + 1
  | .map entries => uptoBulkEntries entries + 1
  | .held _ => 1
def uptoBulkAll {H : Type} : List (DataW H) → Nat
  | [] => 0
  | d :: r => uptoBulk d + uptoBulkAll r
def uptoBulkEntries {H : Type} : List (Lit × DataW H) → Nat
  | [] => 0
  | x :: r => uptoBulkEntry x + uptoBulkEntries r
def uptoBulkEntry {H : Type} : Lit × DataW H → Nat
  | (.string bytes, d) => bytes.length + uptoBulk d + 1
  | (_, d) => uptoBulk d + 1
 end
def uptoSmall : (H : Type) → List (DataW H) → Bool := fun _ ds => decide (uptoBulkAll ds ≤ 1048576)
def OpenSpec.upto (s : _root_.Go.ChangeSpec) : _root_.Go.OpenSpec := { _root_.Go.OpenSpec.ofChange s with cond := some uptoSmall }

/-- 'crossroadlaw02.HeadFields', WHERE WHAT IT READS IS OF BULK AT MOST 1048576: true; the input reads as it did. -/
def headFieldsUptoRow : OpenClaim := { program := "ytaafeojjcfognaa", sum := "390b22e619bfd5201f5b4abe7786c83814e17219e9b035347d525b7d568748d6", func := "crossroad/crossroadlaw02.HeadFields", spec := "headFields", apart := false, narrowed := true }
def HeadFieldsUptoSaid : Prop := headFieldsUptoRow.holds Try.pinned (OpenSpec.upto headFieldsSpec)

/-- 'crossroadlaw02.HeadMany', WHERE WHAT IT READS IS OF BULK AT MOST 1048576: true; the input reads as it did. -/
def headManyUptoRow : OpenClaim := { program := "ytaafeojjcfognaa", sum := "390b22e619bfd5201f5b4abe7786c83814e17219e9b035347d525b7d568748d6", func := "crossroad/crossroadlaw02.HeadMany", spec := "headMany", apart := false, narrowed := true }
def HeadManyUptoSaid : Prop := headManyUptoRow.holds Try.pinned (OpenSpec.upto headManySpec)

/-- 'crossroadlaw02.HeadFirst', WHERE WHAT IT READS IS OF BULK AT MOST 1048576: true; the input reads as it did. -/
def headFirstUptoRow : OpenClaim := { program := "ytaafeojjcfognaa", sum := "390b22e619bfd5201f5b4abe7786c83814e17219e9b035347d525b7d568748d6", func := "crossroad/crossroadlaw02.HeadFirst", spec := "headFirst", apart := false, narrowed := true }
def HeadFirstUptoSaid : Prop := headFirstUptoRow.holds Try.pinned (OpenSpec.upto headFirstSpec)

/-- 'crossroadlaw02.HeadClose', WHERE WHAT IT READS IS OF BULK AT MOST 1048576: true; the input reads as it did. -/
def headCloseUptoRow : OpenClaim := { program := "ytaafeojjcfognaa", sum := "390b22e619bfd5201f5b4abe7786c83814e17219e9b035347d525b7d568748d6", func := "crossroad/crossroadlaw02.HeadClose", spec := "headClose", apart := false, narrowed := true }
def HeadCloseUptoSaid : Prop := headCloseUptoRow.holds Try.pinned (OpenSpec.upto headCloseSpec)

/-- 'crossroadlaw02.HeadLengths', WHERE WHAT IT READS IS OF BULK AT MOST 1048576: true; the input reads as it did. -/
def headLengthsUptoRow : OpenClaim := { program := "ytaafeojjcfognaa", sum := "390b22e619bfd5201f5b4abe7786c83814e17219e9b035347d525b7d568748d6", func := "crossroad/crossroadlaw02.HeadLengths", spec := "headLengths", apart := false, narrowed := true }
def HeadLengthsUptoSaid : Prop := headLengthsUptoRow.holds Try.pinned (OpenSpec.upto headLengthsSpec)

/-- 'crossroadlaw02.HeadNames', WHERE WHAT IT READS IS OF BULK AT MOST 1048576: true; the input reads as it did. -/
def headNamesUptoRow : OpenClaim := { program := "ytaafeojjcfognaa", sum := "390b22e619bfd5201f5b4abe7786c83814e17219e9b035347d525b7d568748d6", func := "crossroad/crossroadlaw02.HeadNames", spec := "headNames", apart := false, narrowed := true }
def HeadNamesUptoSaid : Prop := headNamesUptoRow.holds Try.pinned (OpenSpec.upto headNamesSpec)

end Rows
end Go.Proofs.Ytaafeojjcfognaa

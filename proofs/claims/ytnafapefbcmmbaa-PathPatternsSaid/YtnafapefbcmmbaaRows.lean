/-
  No cell of these rows narrows 'for every input' (looked for: loops, veiled, ifaces, maps, wideKeys, modest, calm, conditions, laid).
  DERIVED. THE GIVEN ROWS OF THIS SEAT. 6 by the template 'for every input the law returns true; each argument reads behind the call as it read before'; 0 by the template 'total and deterministic' (their statements: YtnafapefbcmmbaaTotals.lean).
  GIVEN WITH THE SEED: the statements are not yours to turn. If you find one false, say at which input.
  Laid BY PROGRAM, IN A SANDBOX (cutbox-rows.mjs): the forced cells as the released guide's own fill.sh prints them over the translation 321f4bec1a23b2e3… (all of the seat's roots in one cut). By AI agents, Wed Nov 11 2026. No macro, syntax, notation, axiom, sorry.
-/
import Derived.Test.YtnafapefbcmmbaaChecked
import GoSem.Claim
import GoSem.ClaimJoined
import GoSem.ClaimMapViews
import Derived.JoinedTies
import Derived.KernelRfl
namespace Go.Proofs.Ytnafapefbcmmbaa
/- THE CELL 'sum', in the pinned program and in every row, IS THE sha256 OF THE DUMP (.gsa) THAT YtnafapefbcmmbaaProg.lean LOADS. Nothing in Lean hashes anything: it is a label: what it is worth is what the hold of that sum in a sandbox is worth. -/
noncomputable def Try.pinned : Pinned := { name := "ytnafapefbcmmbaa", sum := "321f4bec1a23b2e3d193856d577f4b61b24659c029978ed89f7a20cc113286e5", checked := Try.checked }
namespace Rows
def none {H : Type} : Left H := { results := [], args := [] }

/-- 'crossroadlaw06.PathBack': WHATEVER THE INPUT: true; the input reads as it did. -/
def pathBackSpec : ChangeSpec := { name := "pathBack", fn := fun _ => fun
  | [d1, d2, d3] => { results := [.lit (.bool true)], args := [d1, d2, d3] }
  | _ => none }
def pathBackRow : OpenClaim := { program := "ytnafapefbcmmbaa", sum := "321f4bec1a23b2e3d193856d577f4b61b24659c029978ed89f7a20cc113286e5", func := "crossroad/crossroadlaw06.PathBack", spec := "pathBack", apart := false }
def PathBackSaid : Prop := pathBackRow.holds Try.pinned (OpenSpec.ofChange pathBackSpec)

/-- ITS FALSE NEIGHBOUR: 'it returns false'. Refute it at one input. -/
def pathBackWrong : ChangeSpec := { name := "pathBack", fn := fun _ => fun
  | [d1, d2, d3] => { results := [.lit (.bool false)], args := [d1, d2, d3] }
  | _ => none }
def PathBackWrongFalsely : Prop := pathBackRow.holds Try.pinned (OpenSpec.ofChange pathBackWrong)

/-- 'crossroadlaw06.PathPatterns': WHATEVER THE INPUT: true; the input reads as it did. -/
def pathPatternsSpec : ChangeSpec := { name := "pathPatterns", fn := fun _ => fun
  | [d] => { results := [.lit (.bool true)], args := [d] }
  | _ => none }
def pathPatternsRow : OpenClaim := { program := "ytnafapefbcmmbaa", sum := "321f4bec1a23b2e3d193856d577f4b61b24659c029978ed89f7a20cc113286e5", func := "crossroad/crossroadlaw06.PathPatterns", spec := "pathPatterns", apart := false }
def PathPatternsSaid : Prop := pathPatternsRow.holds Try.pinned (OpenSpec.ofChange pathPatternsSpec)

/-- ITS FALSE NEIGHBOUR: 'it returns false'. Refute it at one input. -/
def pathPatternsWrong : ChangeSpec := { name := "pathPatterns", fn := fun _ => fun
  | [d] => { results := [.lit (.bool false)], args := [d] }
  | _ => none }
def PathPatternsWrongFalsely : Prop := pathPatternsRow.holds Try.pinned (OpenSpec.ofChange pathPatternsWrong)

/-- 'crossroadlaw06.PathQuery': WHATEVER THE INPUT: true; the input reads as it did. -/
def pathQuerySpec : ChangeSpec := { name := "pathQuery", fn := fun _ => fun
  | [d1, d2] => { results := [.lit (.bool true)], args := [d1, d2] }
  | _ => none }
def pathQueryRow : OpenClaim := { program := "ytnafapefbcmmbaa", sum := "321f4bec1a23b2e3d193856d577f4b61b24659c029978ed89f7a20cc113286e5", func := "crossroad/crossroadlaw06.PathQuery", spec := "pathQuery", apart := false }
def PathQuerySaid : Prop := pathQueryRow.holds Try.pinned (OpenSpec.ofChange pathQuerySpec)

/-- ITS FALSE NEIGHBOUR: 'it returns false'. Refute it at one input. -/
def pathQueryWrong : ChangeSpec := { name := "pathQuery", fn := fun _ => fun
  | [d1, d2] => { results := [.lit (.bool false)], args := [d1, d2] }
  | _ => none }
def PathQueryWrongFalsely : Prop := pathQueryRow.holds Try.pinned (OpenSpec.ofChange pathQueryWrong)

/-- 'crossroadlaw06.PathShapes': WHATEVER THE INPUT: true; the input reads as it did. -/
def pathShapesSpec : ChangeSpec := { name := "pathShapes", fn := fun _ => fun
  | [d1, d2] => { results := [.lit (.bool true)], args := [d1, d2] }
  | _ => none }
def pathShapesRow : OpenClaim := { program := "ytnafapefbcmmbaa", sum := "321f4bec1a23b2e3d193856d577f4b61b24659c029978ed89f7a20cc113286e5", func := "crossroad/crossroadlaw06.PathShapes", spec := "pathShapes", apart := false }
def PathShapesSaid : Prop := pathShapesRow.holds Try.pinned (OpenSpec.ofChange pathShapesSpec)

/-- ITS FALSE NEIGHBOUR: 'it returns false'. Refute it at one input. -/
def pathShapesWrong : ChangeSpec := { name := "pathShapes", fn := fun _ => fun
  | [d1, d2] => { results := [.lit (.bool false)], args := [d1, d2] }
  | _ => none }
def PathShapesWrongFalsely : Prop := pathShapesRow.holds Try.pinned (OpenSpec.ofChange pathShapesWrong)

/-- 'crossroadlaw06.PathDeep': WHATEVER THE INPUT: true; the input reads as it did. -/
def pathDeepSpec : ChangeSpec := { name := "pathDeep", fn := fun _ => fun
  | [d] => { results := [.lit (.bool true)], args := [d] }
  | _ => none }
def pathDeepRow : OpenClaim := { program := "ytnafapefbcmmbaa", sum := "321f4bec1a23b2e3d193856d577f4b61b24659c029978ed89f7a20cc113286e5", func := "crossroad/crossroadlaw06.PathDeep", spec := "pathDeep", apart := false }
def PathDeepSaid : Prop := pathDeepRow.holds Try.pinned (OpenSpec.ofChange pathDeepSpec)

/-- ITS FALSE NEIGHBOUR: 'it returns false'. Refute it at one input. -/
def pathDeepWrong : ChangeSpec := { name := "pathDeep", fn := fun _ => fun
  | [d] => { results := [.lit (.bool false)], args := [d] }
  | _ => none }
def PathDeepWrongFalsely : Prop := pathDeepRow.holds Try.pinned (OpenSpec.ofChange pathDeepWrong)

/-- 'crossroadlaw06.PathPlain': WHATEVER THE INPUT: true; the input reads as it did. -/
def pathPlainSpec : ChangeSpec := { name := "pathPlain", fn := fun _ => fun
  | [d] => { results := [.lit (.bool true)], args := [d] }
  | _ => none }
def pathPlainRow : OpenClaim := { program := "ytnafapefbcmmbaa", sum := "321f4bec1a23b2e3d193856d577f4b61b24659c029978ed89f7a20cc113286e5", func := "crossroad/crossroadlaw06.PathPlain", spec := "pathPlain", apart := false }
def PathPlainSaid : Prop := pathPlainRow.holds Try.pinned (OpenSpec.ofChange pathPlainSpec)

/-- ITS FALSE NEIGHBOUR: 'it returns false'. Refute it at one input. -/
def pathPlainWrong : ChangeSpec := { name := "pathPlain", fn := fun _ => fun
  | [d] => { results := [.lit (.bool false)], args := [d] }
  | _ => none }
def PathPlainWrongFalsely : Prop := pathPlainRow.holds Try.pinned (OpenSpec.ofChange pathPlainWrong)

/- THE SECOND FORM. 'bulk': how many values and letters a reading holds, each counted each time it is reached (what is shared counts as often as it is met; a slice's spare places count too). A statement '..UptoSaid' is the law's where the arguments, and the package variables that the reading takes, are together of bulk at most 1048576: NARROWER than '..Said'. Prove '..Said' where nothing that the law and all that it calls make is longer than what came in: it says more and counts as full. Else prove '..UptoSaid'. A law counts once. -/
mutual
def uptoBulk {H : Type} : DataW H → Nat
  | .lit (.string bytes) => bytes.length + 1
  | .lit _ => 1
  | .nil => 1
  | .ptr d => uptoBulk d + 1
  | .slice elems spare => uptoBulkAll elems + uptoBulkAll spare + 1
  | .agg parts => uptoBulkAll parts + 1
  | .iface _ d => uptoBulk d + 1
  | .map entries => uptoBulkEntries entries + 1
  | .held _ => 1
def uptoBulkAll {H : Type} : List (DataW H) → Nat
  | [] => 0
  | d :: r => uptoBulk d + uptoBulkAll r
def uptoBulkEntries {H : Type} : List (Lit × DataW H) → Nat
  | [] => 0
  | x :: r => uptoBulkEntry x + uptoBulkEntries r
def uptoBulkEntry {H : Type} : Lit × DataW H → Nat
  | (.string bytes, d) => bytes.length + uptoBulk d + 1
  | (_, d) => uptoBulk d + 1
 end
def uptoSmall : (H : Type) → List (DataW H) → Bool := fun _ ds => decide (uptoBulkAll ds ≤ 1048576)
def OpenSpec.upto (s : _root_.Go.ChangeSpec) : _root_.Go.OpenSpec := { _root_.Go.OpenSpec.ofChange s with cond := some uptoSmall }

/-- 'crossroadlaw06.PathBack', WHERE WHAT IT READS IS OF BULK AT MOST 1048576: true; the input reads as it did. -/
def pathBackUptoRow : OpenClaim := { program := "ytnafapefbcmmbaa", sum := "321f4bec1a23b2e3d193856d577f4b61b24659c029978ed89f7a20cc113286e5", func := "crossroad/crossroadlaw06.PathBack", spec := "pathBack", apart := false, narrowed := true }
def PathBackUptoSaid : Prop := pathBackUptoRow.holds Try.pinned (OpenSpec.upto pathBackSpec)

/-- 'crossroadlaw06.PathPatterns', WHERE WHAT IT READS IS OF BULK AT MOST 1048576: true; the input reads as it did. -/
def pathPatternsUptoRow : OpenClaim := { program := "ytnafapefbcmmbaa", sum := "321f4bec1a23b2e3d193856d577f4b61b24659c029978ed89f7a20cc113286e5", func := "crossroad/crossroadlaw06.PathPatterns", spec := "pathPatterns", apart := false, narrowed := true }
def PathPatternsUptoSaid : Prop := pathPatternsUptoRow.holds Try.pinned (OpenSpec.upto pathPatternsSpec)

/-- 'crossroadlaw06.PathQuery', WHERE WHAT IT READS IS OF BULK AT MOST 1048576: true; the input reads as it did. -/
def pathQueryUptoRow : OpenClaim := { program := "ytnafapefbcmmbaa", sum := "321f4bec1a23b2e3d193856d577f4b61b24659c029978ed89f7a20cc113286e5", func := "crossroad/crossroadlaw06.PathQuery", spec := "pathQuery", apart := false, narrowed := true }
def PathQueryUptoSaid : Prop := pathQueryUptoRow.holds Try.pinned (OpenSpec.upto pathQuerySpec)

/-- 'crossroadlaw06.PathShapes', WHERE WHAT IT READS IS OF BULK AT MOST 1048576: true; the input reads as it did. -/
def pathShapesUptoRow : OpenClaim := { program := "ytnafapefbcmmbaa", sum := "321f4bec1a23b2e3d193856d577f4b61b24659c029978ed89f7a20cc113286e5", func := "crossroad/crossroadlaw06.PathShapes", spec := "pathShapes", apart := false, narrowed := true }
def PathShapesUptoSaid : Prop := pathShapesUptoRow.holds Try.pinned (OpenSpec.upto pathShapesSpec)

/-- 'crossroadlaw06.PathDeep', WHERE WHAT IT READS IS OF BULK AT MOST 1048576: true; the input reads as it did. -/
def pathDeepUptoRow : OpenClaim := { program := "ytnafapefbcmmbaa", sum := "321f4bec1a23b2e3d193856d577f4b61b24659c029978ed89f7a20cc113286e5", func := "crossroad/crossroadlaw06.PathDeep", spec := "pathDeep", apart := false, narrowed := true }
def PathDeepUptoSaid : Prop := pathDeepUptoRow.holds Try.pinned (OpenSpec.upto pathDeepSpec)

/-- 'crossroadlaw06.PathPlain', WHERE WHAT IT READS IS OF BULK AT MOST 1048576: true; the input reads as it did. -/
def pathPlainUptoRow : OpenClaim := { program := "ytnafapefbcmmbaa", sum := "321f4bec1a23b2e3d193856d577f4b61b24659c029978ed89f7a20cc113286e5", func := "crossroad/crossroadlaw06.PathPlain", spec := "pathPlain", apart := false, narrowed := true }
def PathPlainUptoSaid : Prop := pathPlainUptoRow.holds Try.pinned (OpenSpec.upto pathPlainSpec)

end Rows
end Go.Proofs.Ytnafapefbcmmbaa

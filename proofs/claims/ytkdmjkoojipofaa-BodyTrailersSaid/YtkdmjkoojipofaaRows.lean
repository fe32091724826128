/-
  No cell of these rows narrows 'for every input' (looked for: loops, veiled, ifaces, maps, wideKeys, modest, calm, conditions, laid).
  DERIVED. THE GIVEN ROWS OF THIS SEAT. 6 by the template 'for every input the law returns true; each argument reads behind the call as it read before'; 0 by the template 'total and deterministic' (their statements: YtkdmjkoojipofaaTotals.lean).
  GIVEN WITH THE SEED: the statements are not yours to turn. If you find one false, say at which input.
  Laid BY PROGRAM, IN A SANDBOX (cutbox-rows.mjs): the forced cells as the released guide's own fill.sh prints them over the translation 522cf33eb414f799… (all of the seat's roots in one cut). By AI agents, Wed Nov 11 2026. No macro, syntax, notation, axiom, sorry.
-/
import Derived.Test.YtkdmjkoojipofaaChecked
import GoSem.Claim
import GoSem.ClaimJoined
import GoSem.ClaimMapViews
import Derived.JoinedTies
import Derived.KernelRfl
namespace Go.Proofs.Ytkdmjkoojipofaa
/- THE CELL 'sum', in the pinned program and in every row, IS THE sha256 OF THE DUMP (.gsa) THAT YtkdmjkoojipofaaProg.lean LOADS. Nothing in Lean hashes anything: it is a label: what it is worth is what the hold of that sum in a sandbox is worth. -/
noncomputable def Try.pinned : Pinned := { name := "ytkdmjkoojipofaa", sum := "522cf33eb414f799bdf047770e31709ad9b09c430f74f0df4baa4391036704b6", checked := Try.checked }
namespace Rows
def none {H : Type} : Left H := { results := [], args := [] }

/-- 'crossroadlaw03.BodyLengths': WHATEVER THE INPUT: true; the input reads as it did. -/
def bodyLengthsSpec : ChangeSpec := { name := "bodyLengths", fn := fun _ => fun
  | [d1, d2] => { results := [.lit (.bool true)], args := [d1, d2] }
  | _ => none }
def bodyLengthsRow : OpenClaim := { program := "ytkdmjkoojipofaa", sum := "522cf33eb414f799bdf047770e31709ad9b09c430f74f0df4baa4391036704b6", func := "crossroad/crossroadlaw03.BodyLengths", spec := "bodyLengths", apart := false }
def BodyLengthsSaid : Prop := bodyLengthsRow.holds Try.pinned (OpenSpec.ofChange bodyLengthsSpec)

/-- ITS FALSE NEIGHBOUR: 'it returns false'. Refute it at one input. -/
def bodyLengthsWrong : ChangeSpec := { name := "bodyLengths", fn := fun _ => fun
  | [d1, d2] => { results := [.lit (.bool false)], args := [d1, d2] }
  | _ => none }
def BodyLengthsWrongFalsely : Prop := bodyLengthsRow.holds Try.pinned (OpenSpec.ofChange bodyLengthsWrong)

/-- 'crossroadlaw03.BodyAny': WHATEVER THE INPUT: true; the input reads as it did. -/
def bodyAnySpec : ChangeSpec := { name := "bodyAny", fn := fun _ => fun
  | [d1, d2] => { results := [.lit (.bool true)], args := [d1, d2] }
  | _ => none }
def bodyAnyRow : OpenClaim := { program := "ytkdmjkoojipofaa", sum := "522cf33eb414f799bdf047770e31709ad9b09c430f74f0df4baa4391036704b6", func := "crossroad/crossroadlaw03.BodyAny", spec := "bodyAny", apart := false }
def BodyAnySaid : Prop := bodyAnyRow.holds Try.pinned (OpenSpec.ofChange bodyAnySpec)

/-- ITS FALSE NEIGHBOUR: 'it returns false'. Refute it at one input. -/
def bodyAnyWrong : ChangeSpec := { name := "bodyAny", fn := fun _ => fun
  | [d1, d2] => { results := [.lit (.bool false)], args := [d1, d2] }
  | _ => none }
def BodyAnyWrongFalsely : Prop := bodyAnyRow.holds Try.pinned (OpenSpec.ofChange bodyAnyWrong)

/-- 'crossroadlaw03.BodyWrong': WHATEVER THE INPUT: true; the input reads as it did. -/
def bodyWrongSpec : ChangeSpec := { name := "bodyWrong", fn := fun _ => fun
  | [d1, d2] => { results := [.lit (.bool true)], args := [d1, d2] }
  | _ => none }
def bodyWrongRow : OpenClaim := { program := "ytkdmjkoojipofaa", sum := "522cf33eb414f799bdf047770e31709ad9b09c430f74f0df4baa4391036704b6", func := "crossroad/crossroadlaw03.BodyWrong", spec := "bodyWrong", apart := false }
def BodyWrongSaid : Prop := bodyWrongRow.holds Try.pinned (OpenSpec.ofChange bodyWrongSpec)

/-- ITS FALSE NEIGHBOUR: 'it returns false'. Refute it at one input. -/
def bodyWrongWrong : ChangeSpec := { name := "bodyWrong", fn := fun _ => fun
  | [d1, d2] => { results := [.lit (.bool false)], args := [d1, d2] }
  | _ => none }
def BodyWrongWrongFalsely : Prop := bodyWrongRow.holds Try.pinned (OpenSpec.ofChange bodyWrongWrong)

/-- 'crossroadlaw03.BodySizes': WHATEVER THE INPUT: true; the input reads as it did. -/
def bodySizesSpec : ChangeSpec := { name := "bodySizes", fn := fun _ => fun
  | [d1, d2] => { results := [.lit (.bool true)], args := [d1, d2] }
  | _ => none }
def bodySizesRow : OpenClaim := { program := "ytkdmjkoojipofaa", sum := "522cf33eb414f799bdf047770e31709ad9b09c430f74f0df4baa4391036704b6", func := "crossroad/crossroadlaw03.BodySizes", spec := "bodySizes", recurses := true, apart := false }
def BodySizesSaid : Prop := bodySizesRow.holds Try.pinned (OpenSpec.ofChange bodySizesSpec)

/-- ITS FALSE NEIGHBOUR: 'it returns false'. Refute it at one input. -/
def bodySizesWrong : ChangeSpec := { name := "bodySizes", fn := fun _ => fun
  | [d1, d2] => { results := [.lit (.bool false)], args := [d1, d2] }
  | _ => none }
def BodySizesWrongFalsely : Prop := bodySizesRow.holds Try.pinned (OpenSpec.ofChange bodySizesWrong)

/-- 'crossroadlaw03.BodyChunks': WHATEVER THE INPUT: true; the input reads as it did. -/
def bodyChunksSpec : ChangeSpec := { name := "bodyChunks", fn := fun _ => fun
  | [d1, d2, d3] => { results := [.lit (.bool true)], args := [d1, d2, d3] }
  | _ => none }
def bodyChunksRow : OpenClaim := { program := "ytkdmjkoojipofaa", sum := "522cf33eb414f799bdf047770e31709ad9b09c430f74f0df4baa4391036704b6", func := "crossroad/crossroadlaw03.BodyChunks", spec := "bodyChunks", recurses := true, apart := false }
def BodyChunksSaid : Prop := bodyChunksRow.holds Try.pinned (OpenSpec.ofChange bodyChunksSpec)

/-- ITS FALSE NEIGHBOUR: 'it returns false'. Refute it at one input. -/
def bodyChunksWrong : ChangeSpec := { name := "bodyChunks", fn := fun _ => fun
  | [d1, d2, d3] => { results := [.lit (.bool false)], args := [d1, d2, d3] }
  | _ => none }
def BodyChunksWrongFalsely : Prop := bodyChunksRow.holds Try.pinned (OpenSpec.ofChange bodyChunksWrong)

/-- 'crossroadlaw03.BodyTrailers': WHATEVER THE INPUT: true; the input reads as it did. -/
def bodyTrailersSpec : ChangeSpec := { name := "bodyTrailers", fn := fun _ => fun
  | [d1, d2, d3] => { results := [.lit (.bool true)], args := [d1, d2, d3] }
  | _ => none }
def bodyTrailersRow : OpenClaim := { program := "ytkdmjkoojipofaa", sum := "522cf33eb414f799bdf047770e31709ad9b09c430f74f0df4baa4391036704b6", func := "crossroad/crossroadlaw03.BodyTrailers", spec := "bodyTrailers", recurses := true, apart := false }
def BodyTrailersSaid : Prop := bodyTrailersRow.holds Try.pinned (OpenSpec.ofChange bodyTrailersSpec)

/-- ITS FALSE NEIGHBOUR: 'it returns false'. Refute it at one input. -/
def bodyTrailersWrong : ChangeSpec := { name := "bodyTrailers", fn := fun _ => fun
  | [d1, d2, d3] => { results := [.lit (.bool false)], args := [d1, d2, d3] }
  | _ => none }
def BodyTrailersWrongFalsely : Prop := bodyTrailersRow.holds Try.pinned (OpenSpec.ofChange bodyTrailersWrong)

/- THE SECOND FORM. 'bulk': how many values and letters a reading holds, each counted each time it is reached (what is shared counts as often as it is met; a slice's spare places count too). A statement '..UptoSaid' is the law's where the arguments, and the package variables that the reading takes, are together of bulk at most 1048576: NARROWER than '..Said'. Prove '..Said' where nothing that the law and all that it calls make is longer than what came in: it says more and counts as full. Else prove '..UptoSaid'. A law counts once. -/
mutual
def uptoBulk {H : Type} : DataW H → Nat
  | .lit (.string bytes) => bytes.length + 1
  | .lit _ => 1
  | .nil => 1
  | .ptr d => uptoBulk d + 1
  | .slice elems spare => uptoBulkAll elems + uptoBulkAll spare + 1
  | .agg parts => uptoBulkAll parts + 1
  | .iface _ d => uptoBulk d + 1
  | .map entries => uptoBulkEntries entries + 1
  | .held _ => 1
def uptoBulkAll {H : Type} : List (DataW H) → Nat
  | [] => 0
  | d :: r => uptoBulk d + uptoBulkAll r
def uptoBulkEntries {H : Type} : List (Lit × DataW H) → Nat
  | [] => 0
  | x :: r => uptoBulkEntry x + uptoBulkEntries r
def uptoBulkEntry {H : Type} : Lit × DataW H → Nat
  | (.string bytes, d) => bytes.length + uptoBulk d + 1
  | (_, d) => uptoBulk d + 1
 end
def uptoSmall : (H : Type) → List (DataW H) → Bool := fun _ ds => decide (uptoBulkAll ds ≤ 1048576)
def OpenSpec.upto (s : _root_.Go.ChangeSpec) : _root_.Go.OpenSpec := { _root_.Go.OpenSpec.ofChange s with cond := some uptoSmall }

/-- 'crossroadlaw03.BodyLengths', WHERE WHAT IT READS IS OF BULK AT MOST 1048576: true; the input reads as it did. -/
def bodyLengthsUptoRow : OpenClaim := { program := "ytkdmjkoojipofaa", sum := "522cf33eb414f799bdf047770e31709ad9b09c430f74f0df4baa4391036704b6", func := "crossroad/crossroadlaw03.BodyLengths", spec := "bodyLengths", apart := false, narrowed := true }
def BodyLengthsUptoSaid : Prop := bodyLengthsUptoRow.holds Try.pinned (OpenSpec.upto bodyLengthsSpec)

/-- 'crossroadlaw03.BodyAny', WHERE WHAT IT READS IS OF BULK AT MOST 1048576: true; the input reads as it did. -/
def bodyAnyUptoRow : OpenClaim := { program := "ytkdmjkoojipofaa", sum := "522cf33eb414f799bdf047770e31709ad9b09c430f74f0df4baa4391036704b6", func := "crossroad/crossroadlaw03.BodyAny", spec := "bodyAny", apart := false, narrowed := true }
def BodyAnyUptoSaid : Prop := bodyAnyUptoRow.holds Try.pinned (OpenSpec.upto bodyAnySpec)

/-- 'crossroadlaw03.BodyWrong', WHERE WHAT IT READS IS OF BULK AT MOST 1048576: true; the input reads as it did. -/
def bodyWrongUptoRow : OpenClaim := { program := "ytkdmjkoojipofaa", sum := "522cf33eb414f799bdf047770e31709ad9b09c430f74f0df4baa4391036704b6", func := "crossroad/crossroadlaw03.BodyWrong", spec := "bodyWrong", apart := false, narrowed := true }
def BodyWrongUptoSaid : Prop := bodyWrongUptoRow.holds Try.pinned (OpenSpec.upto bodyWrongSpec)

/-- 'crossroadlaw03.BodySizes', WHERE WHAT IT READS IS OF BULK AT MOST 1048576: true; the input reads as it did. -/
def bodySizesUptoRow : OpenClaim := { program := "ytkdmjkoojipofaa", sum := "522cf33eb414f799bdf047770e31709ad9b09c430f74f0df4baa4391036704b6", func := "crossroad/crossroadlaw03.BodySizes", spec := "bodySizes", recurses := true, apart := false, narrowed := true }
def BodySizesUptoSaid : Prop := bodySizesUptoRow.holds Try.pinned (OpenSpec.upto bodySizesSpec)

/-- 'crossroadlaw03.BodyChunks', WHERE WHAT IT READS IS OF BULK AT MOST 1048576: true; the input reads as it did. -/
def bodyChunksUptoRow : OpenClaim := { program := "ytkdmjkoojipofaa", sum := "522cf33eb414f799bdf047770e31709ad9b09c430f74f0df4baa4391036704b6", func := "crossroad/crossroadlaw03.BodyChunks", spec := "bodyChunks", recurses := true, apart := false, narrowed := true }
def BodyChunksUptoSaid : Prop := bodyChunksUptoRow.holds Try.pinned (OpenSpec.upto bodyChunksSpec)

/-- 'crossroadlaw03.BodyTrailers', WHERE WHAT IT READS IS OF BULK AT MOST 1048576: true; the input reads as it did. -/
def bodyTrailersUptoRow : OpenClaim := { program := "ytkdmjkoojipofaa", sum := "522cf33eb414f799bdf047770e31709ad9b09c430f74f0df4baa4391036704b6", func := "crossroad/crossroadlaw03.BodyTrailers", spec := "bodyTrailers", recurses := true, apart := false, narrowed := true }
def BodyTrailersUptoSaid : Prop := bodyTrailersUptoRow.holds Try.pinned (OpenSpec.upto bodyTrailersSpec)

end Rows
end Go.Proofs.Ytkdmjkoojipofaa

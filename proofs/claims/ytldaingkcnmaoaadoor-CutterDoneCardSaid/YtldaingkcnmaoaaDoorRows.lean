/-
  NARROWER THAN 'FOR EVERY INPUT', by the rows' own cells (each row's printed sentence says how): CutterBodies: laid · CutterDone: laid · CutterSeeds: laid · CutterLines: laid · CutterBlank: laid.
  DERIVED. THE GIVEN ROWS OF THIS SEAT. 5 by the template 'for every input the law returns true; each argument reads behind the call as it read before'; 0 by the template 'total and deterministic' (their statements: YtldaingkcnmaoaaDoorTotals.lean).
  GIVEN WITH THE SEED: the statements are not yours to turn. If you find one false, say at which input.
  Laid BY PROGRAM, IN A SANDBOX (cutbox-rows.mjs): the forced cells as the released guide's own fill.sh prints them over the translation 00f6f59b1560e6e0… (all of the seat's roots in one cut). By AI agents, Wed Nov 11 2026. No macro, syntax, notation, axiom, sorry.
-/
import Derived.Test.YtldaingkcnmaoaaDoorChecked
import GoSem.Claim
import GoSem.ClaimJoined
import GoSem.ClaimMapViews
import Derived.JoinedTies
import Derived.KernelRfl
namespace Go.Proofs.YtldaingkcnmaoaaDoor
/- THE CELL 'sum', in the pinned program and in every row, IS THE sha256 OF THE DUMP (.gsa) THAT YtldaingkcnmaoaaDoorProg.lean LOADS. Nothing in Lean hashes anything: it is a label: what it is worth is what the hold of that sum in a sandbox is worth. -/
noncomputable def Tryd.pinned : Pinned := { name := "ytldaingkcnmaoaadoor", sum := "00f6f59b1560e6e099d1525c2054ede77424fb5989afeaeb2c0adc4693e2577d", checked := Tryd.checked }
namespace Rows
def none {H : Type} : Left H := { results := [], args := [] }

/- WHAT THE LISTED PACKAGE-LEVEL VARIABLES READ AS WHEN THE CALL BEGINS. Each datum BY PROGRAM (the guide's laid-datum.mjs) off the statement by which the dump's own 'gosem.cut.vars' lays the variable. In a bare row this is a premise. The card (YtldaingkcnmaoaaDoorCards.lean) ties it to the program's text. -/
def laid_crossroad_crossroadlaw04_methods {H : Type} : DataW H := .agg [.lit (.string [71, 69, 84]), .lit (.string [80, 85, 84]), .lit (.string [80, 79, 83, 84]), .lit (.string [68, 69, 76, 69, 84, 69]), .lit (.string [71, 69, 84]), .lit (.string [72, 69, 65, 68])]
def laid_crossroad_crossroadlaw04_targets {H : Type} : DataW H := .agg [.lit (.string [47, 104, 101, 97, 108, 116, 104]), .lit (.string [47, 107, 118, 47, 97]), .lit (.string [47, 107, 118, 47, 98]), .lit (.string [47, 107, 118, 47, 99, 37, 50, 48, 100]), .lit (.string [47, 108, 105, 115, 116, 47]), .lit (.string [47, 108, 105, 115, 116, 47, 97]), .lit (.string [47, 119, 97, 108, 107, 47, 70, 76, 70]), .lit (.string [47, 119, 97, 108, 107, 47, 120]), .lit (.string [47, 97, 100, 109, 105, 110, 47, 114, 111, 117, 116, 101, 115]), .lit (.string [47, 97, 100, 109, 105, 110, 47, 115, 116, 111, 112]), .lit (.string [47, 110, 111, 112, 101]), .lit (.string [47, 107, 118]), .lit (.string [47, 107, 118, 47, 97]), .lit (.string [47, 107, 118, 47, 98, 63, 120]), .lit (.string [47, 107, 118, 47, 37, 122, 122]), .lit (.string [47])]
def laid_crossroad_crossroadlaw04_bodies {H : Type} : DataW H := .agg [.lit (.string []), .lit (.string [111, 110, 101]), .lit (.string [116, 119, 111]), .lit (.string [71, 69, 84, 32, 47, 104, 101, 97, 108, 116, 104, 32, 104, 101, 97, 108, 116, 104, 10, 80, 85, 84, 32, 47, 107, 118, 47, 58, 107, 32, 112, 117, 116, 10, 71, 69, 84, 32, 47, 107, 118, 47, 58, 107, 32, 103, 101, 116, 10, 80, 79, 83, 84, 32, 47, 97, 100, 109, 105, 110, 47, 114, 111, 117, 116, 101, 115, 32, 114, 101, 108, 111, 97, 100, 10]), .lit (.string [71, 69, 84, 32, 47, 97, 47, 58, 120, 32, 103, 101, 116, 10, 71, 69, 84, 32, 47, 97, 47, 58, 121, 32, 112, 117, 116, 10]), .lit (.string [106, 117, 110, 107]), .lit (.string []), .lit (.string [80, 79, 83, 84, 32, 47, 97, 100, 109, 105, 110, 47, 114, 111, 117, 116, 101, 115, 32, 114, 101, 108, 111, 97, 100, 10, 80, 79, 83, 84, 32, 47, 97, 100, 109, 105, 110, 47, 115, 116, 111, 112, 32, 115, 104, 117, 116, 100, 111, 119, 110, 10, 71, 69, 84, 32, 47, 107, 118, 47, 58, 107, 101, 121, 32, 103, 101, 116, 10, 71, 69, 84, 32, 47, 42, 97, 108, 108, 32, 108, 105, 115, 116, 10, 80, 85, 84, 32, 47, 107, 118, 47, 58, 107, 101, 121, 32, 112, 117, 116, 10])]

/-- 'crossroadlaw04.CutterBodies': WHATEVER THE INPUT: true; the input reads as it did. -/
def cutterBodiesSpec : ChangeSpec := { name := "cutterBodies", fn := fun _ => fun
  | [d1, d2] => { results := [.lit (.bool true)], args := [d1, d2] }
  | _ => none }
def cutterBodiesRow : OpenClaim := { program := "ytldaingkcnmaoaadoor", sum := "00f6f59b1560e6e099d1525c2054ede77424fb5989afeaeb2c0adc4693e2577d", func := "crossroad/crossroadlaw04.CutterBodies", spec := "cutterBodies", recurses := true, named := ["crossroad/crossroadlaw04.bodies", "crossroad/crossroadlaw04.methods", "crossroad/crossroadlaw04.targets"], apart := false, laid := [("crossroad/crossroadlaw04.methods", laid_crossroad_crossroadlaw04_methods), ("crossroad/crossroadlaw04.targets", laid_crossroad_crossroadlaw04_targets), ("crossroad/crossroadlaw04.bodies", laid_crossroad_crossroadlaw04_bodies)] }
def CutterBodiesSaid : Prop := cutterBodiesRow.holds Tryd.pinned (OpenSpec.ofChange cutterBodiesSpec)

/-- ITS FALSE NEIGHBOUR: 'it returns false'. Refute it at one input. -/
def cutterBodiesWrong : ChangeSpec := { name := "cutterBodies", fn := fun _ => fun
  | [d1, d2] => { results := [.lit (.bool false)], args := [d1, d2] }
  | _ => none }
def CutterBodiesWrongFalsely : Prop := cutterBodiesRow.holds Tryd.pinned (OpenSpec.ofChange cutterBodiesWrong)

/-- 'crossroadlaw04.CutterDone': WHATEVER THE INPUT: true; the input reads as it did. -/
def cutterDoneSpec : ChangeSpec := { name := "cutterDone", fn := fun _ => fun
  | [d1, d2, d3] => { results := [.lit (.bool true)], args := [d1, d2, d3] }
  | _ => none }
def cutterDoneRow : OpenClaim := { program := "ytldaingkcnmaoaadoor", sum := "00f6f59b1560e6e099d1525c2054ede77424fb5989afeaeb2c0adc4693e2577d", func := "crossroad/crossroadlaw04.CutterDone", spec := "cutterDone", recurses := true, named := ["crossroad/crossroadlaw04.bodies", "crossroad/crossroadlaw04.methods", "crossroad/crossroadlaw04.targets"], apart := false, laid := [("crossroad/crossroadlaw04.methods", laid_crossroad_crossroadlaw04_methods), ("crossroad/crossroadlaw04.targets", laid_crossroad_crossroadlaw04_targets), ("crossroad/crossroadlaw04.bodies", laid_crossroad_crossroadlaw04_bodies)] }
def CutterDoneSaid : Prop := cutterDoneRow.holds Tryd.pinned (OpenSpec.ofChange cutterDoneSpec)

/-- ITS FALSE NEIGHBOUR: 'it returns false'. Refute it at one input. -/
def cutterDoneWrong : ChangeSpec := { name := "cutterDone", fn := fun _ => fun
  | [d1, d2, d3] => { results := [.lit (.bool false)], args := [d1, d2, d3] }
  | _ => none }
def CutterDoneWrongFalsely : Prop := cutterDoneRow.holds Tryd.pinned (OpenSpec.ofChange cutterDoneWrong)

/-- 'crossroadlaw04.CutterSeeds': WHATEVER THE INPUT: true; the input reads as it did. -/
def cutterSeedsSpec : ChangeSpec := { name := "cutterSeeds", fn := fun _ => fun
  | [d] => { results := [.lit (.bool true)], args := [d] }
  | _ => none }
def cutterSeedsRow : OpenClaim := { program := "ytldaingkcnmaoaadoor", sum := "00f6f59b1560e6e099d1525c2054ede77424fb5989afeaeb2c0adc4693e2577d", func := "crossroad/crossroadlaw04.CutterSeeds", spec := "cutterSeeds", recurses := true, named := ["crossroad/crossroadlaw04.bodies", "crossroad/crossroadlaw04.targets", "crossroad/crossroadlaw04.methods"], apart := false, laid := [("crossroad/crossroadlaw04.methods", laid_crossroad_crossroadlaw04_methods), ("crossroad/crossroadlaw04.targets", laid_crossroad_crossroadlaw04_targets), ("crossroad/crossroadlaw04.bodies", laid_crossroad_crossroadlaw04_bodies)] }
def CutterSeedsSaid : Prop := cutterSeedsRow.holds Tryd.pinned (OpenSpec.ofChange cutterSeedsSpec)

/-- ITS FALSE NEIGHBOUR: 'it returns false'. Refute it at one input. -/
def cutterSeedsWrong : ChangeSpec := { name := "cutterSeeds", fn := fun _ => fun
  | [d] => { results := [.lit (.bool false)], args := [d] }
  | _ => none }
def CutterSeedsWrongFalsely : Prop := cutterSeedsRow.holds Tryd.pinned (OpenSpec.ofChange cutterSeedsWrong)

/-- 'crossroadlaw04.CutterLines': WHATEVER THE INPUT: true; the input reads as it did. -/
def cutterLinesSpec : ChangeSpec := { name := "cutterLines", fn := fun _ => fun
  | [d1, d2] => { results := [.lit (.bool true)], args := [d1, d2] }
  | _ => none }
def cutterLinesRow : OpenClaim := { program := "ytldaingkcnmaoaadoor", sum := "00f6f59b1560e6e099d1525c2054ede77424fb5989afeaeb2c0adc4693e2577d", func := "crossroad/crossroadlaw04.CutterLines", spec := "cutterLines", recurses := true, named := ["crossroad/crossroadlaw04.bodies", "crossroad/crossroadlaw04.methods", "crossroad/crossroadlaw04.targets"], apart := false, laid := [("crossroad/crossroadlaw04.methods", laid_crossroad_crossroadlaw04_methods), ("crossroad/crossroadlaw04.targets", laid_crossroad_crossroadlaw04_targets), ("crossroad/crossroadlaw04.bodies", laid_crossroad_crossroadlaw04_bodies)] }
def CutterLinesSaid : Prop := cutterLinesRow.holds Tryd.pinned (OpenSpec.ofChange cutterLinesSpec)

/-- ITS FALSE NEIGHBOUR: 'it returns false'. Refute it at one input. -/
def cutterLinesWrong : ChangeSpec := { name := "cutterLines", fn := fun _ => fun
  | [d1, d2] => { results := [.lit (.bool false)], args := [d1, d2] }
  | _ => none }
def CutterLinesWrongFalsely : Prop := cutterLinesRow.holds Tryd.pinned (OpenSpec.ofChange cutterLinesWrong)

/-- 'crossroadlaw04.CutterBlank': WHATEVER THE INPUT: true; the input reads as it did. -/
def cutterBlankSpec : ChangeSpec := { name := "cutterBlank", fn := fun _ => fun
  | [d1, d2] => { results := [.lit (.bool true)], args := [d1, d2] }
  | _ => none }
def cutterBlankRow : OpenClaim := { program := "ytldaingkcnmaoaadoor", sum := "00f6f59b1560e6e099d1525c2054ede77424fb5989afeaeb2c0adc4693e2577d", func := "crossroad/crossroadlaw04.CutterBlank", spec := "cutterBlank", recurses := true, named := ["crossroad/crossroadlaw04.bodies", "crossroad/crossroadlaw04.methods", "crossroad/crossroadlaw04.targets"], apart := false, laid := [("crossroad/crossroadlaw04.methods", laid_crossroad_crossroadlaw04_methods), ("crossroad/crossroadlaw04.targets", laid_crossroad_crossroadlaw04_targets), ("crossroad/crossroadlaw04.bodies", laid_crossroad_crossroadlaw04_bodies)] }
def CutterBlankSaid : Prop := cutterBlankRow.holds Tryd.pinned (OpenSpec.ofChange cutterBlankSpec)

/-- ITS FALSE NEIGHBOUR: 'it returns false'. Refute it at one input. -/
def cutterBlankWrong : ChangeSpec := { name := "cutterBlank", fn := fun _ => fun
  | [d1, d2] => { results := [.lit (.bool false)], args := [d1, d2] }
  | _ => none }
def CutterBlankWrongFalsely : Prop := cutterBlankRow.holds Tryd.pinned (OpenSpec.ofChange cutterBlankWrong)

/- THE SECOND FORM. 'bulk': how many values and letters a reading holds, each counted each time it is reached (what is shared counts as often as it is met; a slice's spare places count too). A statement '..UptoSaid' is the law's where the arguments, and the package variables that the reading takes, are together of bulk at most 1048576: NARROWER than '..Said'. Prove '..Said' where nothing that the law and all that it calls make is longer than what came in: it says more and counts as full. Else prove '..UptoSaid'. A law counts once. -/
mutual
def uptoBulk {H : Type} : DataW H → Nat
  | .lit (.string bytes) => bytes.length + 1
  | .lit _ => 1
  | .nil => 1
  | .ptr d => uptoBulk d + 1
  | .slice elems spare => uptoBulkAll elems + uptoBulkAll spare + 1
  | .agg parts => uptoBulkAll parts + 1
  | .iface _ d => uptoBulk d + 1
  | .map entries => uptoBulkEntries entries + 1
  | .held _ => 1
def uptoBulkAll {H : Type} : List (DataW H) → Nat
  | [] => 0
  | d :: r => uptoBulk d + uptoBulkAll r
def uptoBulkEntries {H : Type} : List (Lit × DataW H) → Nat
  | [] => 0
  | x :: r => uptoBulkEntry x + uptoBulkEntries r
def uptoBulkEntry {H : Type} : Lit × DataW H → Nat
  | (.string bytes, d) => bytes.length + uptoBulk d + 1
  | (_, d) => uptoBulk d + 1
 end
def uptoSmall : (H : Type) → List (DataW H) → Bool := fun _ ds => decide (uptoBulkAll ds ≤ 1048576)
def OpenSpec.upto (s : _root_.Go.ChangeSpec) : _root_.Go.OpenSpec := { _root_.Go.OpenSpec.ofChange s with cond := some uptoSmall }

/-- 'crossroadlaw04.CutterBodies', WHERE WHAT IT READS IS OF BULK AT MOST 1048576: true; the input reads as it did. -/
def cutterBodiesUptoRow : OpenClaim := { program := "ytldaingkcnmaoaadoor", sum := "00f6f59b1560e6e099d1525c2054ede77424fb5989afeaeb2c0adc4693e2577d", func := "crossroad/crossroadlaw04.CutterBodies", spec := "cutterBodies", recurses := true, named := ["crossroad/crossroadlaw04.bodies", "crossroad/crossroadlaw04.methods", "crossroad/crossroadlaw04.targets"], apart := false, laid := [("crossroad/crossroadlaw04.methods", laid_crossroad_crossroadlaw04_methods), ("crossroad/crossroadlaw04.targets", laid_crossroad_crossroadlaw04_targets), ("crossroad/crossroadlaw04.bodies", laid_crossroad_crossroadlaw04_bodies)], narrowed := true }
def CutterBodiesUptoSaid : Prop := cutterBodiesUptoRow.holds Tryd.pinned (OpenSpec.upto cutterBodiesSpec)

/-- 'crossroadlaw04.CutterDone', WHERE WHAT IT READS IS OF BULK AT MOST 1048576: true; the input reads as it did. -/
def cutterDoneUptoRow : OpenClaim := { program := "ytldaingkcnmaoaadoor", sum := "00f6f59b1560e6e099d1525c2054ede77424fb5989afeaeb2c0adc4693e2577d", func := "crossroad/crossroadlaw04.CutterDone", spec := "cutterDone", recurses := true, named := ["crossroad/crossroadlaw04.bodies", "crossroad/crossroadlaw04.methods", "crossroad/crossroadlaw04.targets"], apart := false, laid := [("crossroad/crossroadlaw04.methods", laid_crossroad_crossroadlaw04_methods), ("crossroad/crossroadlaw04.targets", laid_crossroad_crossroadlaw04_targets), ("crossroad/crossroadlaw04.bodies", laid_crossroad_crossroadlaw04_bodies)], narrowed := true }
def CutterDoneUptoSaid : Prop := cutterDoneUptoRow.holds Tryd.pinned (OpenSpec.upto cutterDoneSpec)

/-- 'crossroadlaw04.CutterSeeds', WHERE WHAT IT READS IS OF BULK AT MOST 1048576: true; the input reads as it did. -/
def cutterSeedsUptoRow : OpenClaim := { program := "ytldaingkcnmaoaadoor", sum := "00f6f59b1560e6e099d1525c2054ede77424fb5989afeaeb2c0adc4693e2577d", func := "crossroad/crossroadlaw04.CutterSeeds", spec := "cutterSeeds", recurses := true, named := ["crossroad/crossroadlaw04.bodies", "crossroad/crossroadlaw04.targets", "crossroad/crossroadlaw04.methods"], apart := false, laid := [("crossroad/crossroadlaw04.methods", laid_crossroad_crossroadlaw04_methods), ("crossroad/crossroadlaw04.targets", laid_crossroad_crossroadlaw04_targets), ("crossroad/crossroadlaw04.bodies", laid_crossroad_crossroadlaw04_bodies)], narrowed := true }
def CutterSeedsUptoSaid : Prop := cutterSeedsUptoRow.holds Tryd.pinned (OpenSpec.upto cutterSeedsSpec)

/-- 'crossroadlaw04.CutterLines', WHERE WHAT IT READS IS OF BULK AT MOST 1048576: true; the input reads as it did. -/
def cutterLinesUptoRow : OpenClaim := { program := "ytldaingkcnmaoaadoor", sum := "00f6f59b1560e6e099d1525c2054ede77424fb5989afeaeb2c0adc4693e2577d", func := "crossroad/crossroadlaw04.CutterLines", spec := "cutterLines", recurses := true, named := ["crossroad/crossroadlaw04.bodies", "crossroad/crossroadlaw04.methods", "crossroad/crossroadlaw04.targets"], apart := false, laid := [("crossroad/crossroadlaw04.methods", laid_crossroad_crossroadlaw04_methods), ("crossroad/crossroadlaw04.targets", laid_crossroad_crossroadlaw04_targets), ("crossroad/crossroadlaw04.bodies", laid_crossroad_crossroadlaw04_bodies)], narrowed := true }
def CutterLinesUptoSaid : Prop := cutterLinesUptoRow.holds Tryd.pinned (OpenSpec.upto cutterLinesSpec)

/-- 'crossroadlaw04.CutterBlank', WHERE WHAT IT READS IS OF BULK AT MOST 1048576: true; the input reads as it did. -/
def cutterBlankUptoRow : OpenClaim := { program := "ytldaingkcnmaoaadoor", sum := "00f6f59b1560e6e099d1525c2054ede77424fb5989afeaeb2c0adc4693e2577d", func := "crossroad/crossroadlaw04.CutterBlank", spec := "cutterBlank", recurses := true, named := ["crossroad/crossroadlaw04.bodies", "crossroad/crossroadlaw04.methods", "crossroad/crossroadlaw04.targets"], apart := false, laid := [("crossroad/crossroadlaw04.methods", laid_crossroad_crossroadlaw04_methods), ("crossroad/crossroadlaw04.targets", laid_crossroad_crossroadlaw04_targets), ("crossroad/crossroadlaw04.bodies", laid_crossroad_crossroadlaw04_bodies)], narrowed := true }
def CutterBlankUptoSaid : Prop := cutterBlankUptoRow.holds Tryd.pinned (OpenSpec.upto cutterBlankSpec)

end Rows
end Go.Proofs.YtldaingkcnmaoaaDoor

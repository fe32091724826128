/-
  NARROWER THAN 'FOR EVERY INPUT', by the rows' own cells (each row's printed sentence says how): TableChecks: laid · TableMany: laid · TableNames: laid · TableTurns: laid · TableBack: laid · TableAny: laid.
  DERIVED. THE GIVEN ROWS OF THIS SEAT. 6 by the template 'for every input the law returns true; each argument reads behind the call as it read before'; 0 by the template 'total and deterministic' (their statements: YtidkhbkndbnnjaaDoorTotals.lean).
  GIVEN WITH THE SEED: the statements are not yours to turn. If you find one false, say at which input.
  Laid BY PROGRAM, IN A SANDBOX (cutbox-rows.mjs): the forced cells as the released guide's own fill.sh prints them over the translation 3742790ed7e96c01… (all of the seat's roots in one cut). By AI agents, Wed Nov 11 2026. No macro, syntax, notation, axiom, sorry.
-/
import Derived.Test.YtidkhbkndbnnjaaDoorChecked
import GoSem.Claim
import GoSem.ClaimJoined
import GoSem.ClaimMapViews
import Derived.JoinedTies
import Derived.KernelRfl
namespace Go.Proofs.YtidkhbkndbnnjaaDoor
/- THE CELL 'sum', in the pinned program and in every row, IS THE sha256 OF THE DUMP (.gsa) THAT YtidkhbkndbnnjaaDoorProg.lean LOADS. Nothing in Lean hashes anything: it is a label: what it is worth is what the hold of that sum in a sandbox is worth. -/
noncomputable def Tryd.pinned : Pinned := { name := "ytidkhbkndbnnjaadoor", sum := "3742790ed7e96c0108b2f63aa55fd5617579003dabbe93373ebfa48d0e144698", checked := Tryd.checked }
namespace Rows
def none {H : Type} : Left H := { results := [], args := [] }

/- WHAT THE LISTED PACKAGE-LEVEL VARIABLES READ AS WHEN THE CALL BEGINS. Each datum BY PROGRAM (the guide's laid-datum.mjs) off the statement by which the dump's own 'gosem.cut.vars' lays the variable. In a bare row this is a premise. The card (YtidkhbkndbnnjaaDoorCards.lean) ties it to the program's text. -/
def laid_crossroad_table_Handlers {H : Type} : DataW H := .agg [.lit (.string [103, 101, 116]), .lit (.string [112, 117, 116]), .lit (.string [100, 101, 108, 101, 116, 101]), .lit (.string [108, 105, 115, 116]), .lit (.string [119, 97, 108, 107]), .lit (.string [104, 101, 97, 108, 116, 104]), .lit (.string [114, 101, 108, 111, 97, 100]), .lit (.string [115, 104, 117, 116, 100, 111, 119, 110])]

/-- 'crossroadlaw07.TableChecks': WHATEVER THE INPUT: true; the input reads as it did. -/
def tableChecksSpec : ChangeSpec := { name := "tableChecks", fn := fun _ => fun
  | [d] => { results := [.lit (.bool true)], args := [d] }
  | _ => none }
def tableChecksRow : OpenClaim := { program := "ytidkhbkndbnnjaadoor", sum := "3742790ed7e96c0108b2f63aa55fd5617579003dabbe93373ebfa48d0e144698", func := "crossroad/crossroadlaw07.TableChecks", spec := "tableChecks", named := ["crossroad/table.Handlers"], plainKeys := false, apart := false, laid := [("crossroad/table.Handlers", laid_crossroad_table_Handlers)] }
def TableChecksSaid : Prop := tableChecksRow.holds Tryd.pinned (OpenSpec.ofChange tableChecksSpec)

/-- ITS FALSE NEIGHBOUR: 'it returns false'. Refute it at one input. -/
def tableChecksWrong : ChangeSpec := { name := "tableChecks", fn := fun _ => fun
  | [d] => { results := [.lit (.bool false)], args := [d] }
  | _ => none }
def TableChecksWrongFalsely : Prop := tableChecksRow.holds Tryd.pinned (OpenSpec.ofChange tableChecksWrong)

/-- 'crossroadlaw07.TableMany': WHATEVER THE INPUT: true; the input reads as it did. -/
def tableManySpec : ChangeSpec := { name := "tableMany", fn := fun _ => fun
  | [d] => { results := [.lit (.bool true)], args := [d] }
  | _ => none }
def tableManyRow : OpenClaim := { program := "ytidkhbkndbnnjaadoor", sum := "3742790ed7e96c0108b2f63aa55fd5617579003dabbe93373ebfa48d0e144698", func := "crossroad/crossroadlaw07.TableMany", spec := "tableMany", named := ["crossroad/table.Handlers"], plainKeys := false, apart := false, laid := [("crossroad/table.Handlers", laid_crossroad_table_Handlers)] }
def TableManySaid : Prop := tableManyRow.holds Tryd.pinned (OpenSpec.ofChange tableManySpec)

/-- ITS FALSE NEIGHBOUR: 'it returns false'. Refute it at one input. -/
def tableManyWrong : ChangeSpec := { name := "tableMany", fn := fun _ => fun
  | [d] => { results := [.lit (.bool false)], args := [d] }
  | _ => none }
def TableManyWrongFalsely : Prop := tableManyRow.holds Tryd.pinned (OpenSpec.ofChange tableManyWrong)

/-- 'crossroadlaw07.TableNames': WHATEVER THE INPUT: true; the input reads as it did. -/
def tableNamesSpec : ChangeSpec := { name := "tableNames", fn := fun _ => fun
  | [d1, d2, d3] => { results := [.lit (.bool true)], args := [d1, d2, d3] }
  | _ => none }
def tableNamesRow : OpenClaim := { program := "ytidkhbkndbnnjaadoor", sum := "3742790ed7e96c0108b2f63aa55fd5617579003dabbe93373ebfa48d0e144698", func := "crossroad/crossroadlaw07.TableNames", spec := "tableNames", named := ["crossroad/table.Handlers"], plainKeys := false, apart := false, laid := [("crossroad/table.Handlers", laid_crossroad_table_Handlers)] }
def TableNamesSaid : Prop := tableNamesRow.holds Tryd.pinned (OpenSpec.ofChange tableNamesSpec)

/-- ITS FALSE NEIGHBOUR: 'it returns false'. Refute it at one input. -/
def tableNamesWrong : ChangeSpec := { name := "tableNames", fn := fun _ => fun
  | [d1, d2, d3] => { results := [.lit (.bool false)], args := [d1, d2, d3] }
  | _ => none }
def TableNamesWrongFalsely : Prop := tableNamesRow.holds Tryd.pinned (OpenSpec.ofChange tableNamesWrong)

/-- 'crossroadlaw07.TableTurns': WHATEVER THE INPUT: true; the input reads as it did. -/
def tableTurnsSpec : ChangeSpec := { name := "tableTurns", fn := fun _ => fun
  | [d1, d2] => { results := [.lit (.bool true)], args := [d1, d2] }
  | _ => none }
def tableTurnsRow : OpenClaim := { program := "ytidkhbkndbnnjaadoor", sum := "3742790ed7e96c0108b2f63aa55fd5617579003dabbe93373ebfa48d0e144698", func := "crossroad/crossroadlaw07.TableTurns", spec := "tableTurns", named := ["crossroad/table.Handlers"], plainKeys := false, apart := false, laid := [("crossroad/table.Handlers", laid_crossroad_table_Handlers)] }
def TableTurnsSaid : Prop := tableTurnsRow.holds Tryd.pinned (OpenSpec.ofChange tableTurnsSpec)

/-- ITS FALSE NEIGHBOUR: 'it returns false'. Refute it at one input. -/
def tableTurnsWrong : ChangeSpec := { name := "tableTurns", fn := fun _ => fun
  | [d1, d2] => { results := [.lit (.bool false)], args := [d1, d2] }
  | _ => none }
def TableTurnsWrongFalsely : Prop := tableTurnsRow.holds Tryd.pinned (OpenSpec.ofChange tableTurnsWrong)

/-- 'crossroadlaw07.TableBack': WHATEVER THE INPUT: true; the input reads as it did. -/
def tableBackSpec : ChangeSpec := { name := "tableBack", fn := fun _ => fun
  | [d1, d2] => { results := [.lit (.bool true)], args := [d1, d2] }
  | _ => none }
def tableBackRow : OpenClaim := { program := "ytidkhbkndbnnjaadoor", sum := "3742790ed7e96c0108b2f63aa55fd5617579003dabbe93373ebfa48d0e144698", func := "crossroad/crossroadlaw07.TableBack", spec := "tableBack", named := ["crossroad/table.Handlers"], plainKeys := false, apart := false, laid := [("crossroad/table.Handlers", laid_crossroad_table_Handlers)] }
def TableBackSaid : Prop := tableBackRow.holds Tryd.pinned (OpenSpec.ofChange tableBackSpec)

/-- ITS FALSE NEIGHBOUR: 'it returns false'. Refute it at one input. -/
def tableBackWrong : ChangeSpec := { name := "tableBack", fn := fun _ => fun
  | [d1, d2] => { results := [.lit (.bool false)], args := [d1, d2] }
  | _ => none }
def TableBackWrongFalsely : Prop := tableBackRow.holds Tryd.pinned (OpenSpec.ofChange tableBackWrong)

/-- 'crossroadlaw07.TableAny': WHATEVER THE INPUT: true; the input reads as it did. -/
def tableAnySpec : ChangeSpec := { name := "tableAny", fn := fun _ => fun
  | [d] => { results := [.lit (.bool true)], args := [d] }
  | _ => none }
def tableAnyRow : OpenClaim := { program := "ytidkhbkndbnnjaadoor", sum := "3742790ed7e96c0108b2f63aa55fd5617579003dabbe93373ebfa48d0e144698", func := "crossroad/crossroadlaw07.TableAny", spec := "tableAny", named := ["crossroad/table.Handlers"], plainKeys := false, apart := false, laid := [("crossroad/table.Handlers", laid_crossroad_table_Handlers)] }
def TableAnySaid : Prop := tableAnyRow.holds Tryd.pinned (OpenSpec.ofChange tableAnySpec)

/-- ITS FALSE NEIGHBOUR: 'it returns false'. Refute it at one input. -/
def tableAnyWrong : ChangeSpec := { name := "tableAny", fn := fun _ => fun
  | [d] => { results := [.lit (.bool false)], args := [d] }
  | _ => none }
def TableAnyWrongFalsely : Prop := tableAnyRow.holds Tryd.pinned (OpenSpec.ofChange tableAnyWrong)

/- THE SECOND FORM. 'bulk': how many values and letters a reading holds, each counted each time it is reached (what is shared counts as often as it is met; a slice's spare places count too). A statement '..UptoSaid' is the law's where the arguments, and the package variables that the reading takes, are together of bulk at most 1048576: NARROWER than '..Said'. Prove '..Said' where nothing that the law and all that it calls make is longer than what came in: it says more and counts as full. Else prove '..UptoSaid'. A law counts once. -/
mutual
def uptoBulk {H : Type} : DataW H → Nat
  | .lit (.string bytes) => bytes.length + 1
  | .lit _ => 1
  | .nil => 1
  | .ptr d => uptoBulk d + 1
  | .slice elems spare => uptoBulkAll elems + uptoBulkAll spare + 1
  | .agg parts => uptoBulkAll parts + 1
  | .iface _ d => uptoBulk d + 1
  | .map entries => uptoBulkEntries entries + 1
  | .held _ => 1
def uptoBulkAll {H : Type} : List (DataW H) → Nat
  | [] => 0
  | d :: r => uptoBulk d + uptoBulkAll r
def uptoBulkEntries {H : Type} : List (Lit × DataW H) → Nat
  | [] => 0
  | x :: r => uptoBulkEntry x + uptoBulkEntries r
def uptoBulkEntry {H : Type} : Lit × DataW H → Nat
  | (.string bytes, d) => bytes.length + uptoBulk d + 1
  | (_, d) => uptoBulk d + 1
 end
def uptoSmall : (H : Type) → List (DataW H) → Bool := fun _ ds => decide (uptoBulkAll ds ≤ 1048576)
def OpenSpec.upto (s : _root_.Go.ChangeSpec) : _root_.Go.OpenSpec := { _root_.Go.OpenSpec.ofChange s with cond := some uptoSmall }

/-- 'crossroadlaw07.TableChecks', WHERE WHAT IT READS IS OF BULK AT MOST 1048576: true; the input reads as it did. -/
def tableChecksUptoRow : OpenClaim := { program := "ytidkhbkndbnnjaadoor", sum := "3742790ed7e96c0108b2f63aa55fd5617579003dabbe93373ebfa48d0e144698", func := "crossroad/crossroadlaw07.TableChecks", spec := "tableChecks", named := ["crossroad/table.Handlers"], plainKeys := false, apart := false, laid := [("crossroad/table.Handlers", laid_crossroad_table_Handlers)], narrowed := true }
def TableChecksUptoSaid : Prop := tableChecksUptoRow.holds Tryd.pinned (OpenSpec.upto tableChecksSpec)

/-- 'crossroadlaw07.TableMany', WHERE WHAT IT READS IS OF BULK AT MOST 1048576: true; the input reads as it did. -/
def tableManyUptoRow : OpenClaim := { program := "ytidkhbkndbnnjaadoor", sum := "3742790ed7e96c0108b2f63aa55fd5617579003dabbe93373ebfa48d0e144698", func := "crossroad/crossroadlaw07.TableMany", spec := "tableMany", named := ["crossroad/table.Handlers"], plainKeys := false, apart := false, laid := [("crossroad/table.Handlers", laid_crossroad_table_Handlers)], narrowed := true }
def TableManyUptoSaid : Prop := tableManyUptoRow.holds Tryd.pinned (OpenSpec.upto tableManySpec)

/-- 'crossroadlaw07.TableNames', WHERE WHAT IT READS IS OF BULK AT MOST 1048576: true; the input reads as it did. -/
def tableNamesUptoRow : OpenClaim := { program := "ytidkhbkndbnnjaadoor", sum := "3742790ed7e96c0108b2f63aa55fd5617579003dabbe93373ebfa48d0e144698", func := "crossroad/crossroadlaw07.TableNames", spec := "tableNames", named := ["crossroad/table.Handlers"], plainKeys := false, apart := false, laid := [("crossroad/table.Handlers", laid_crossroad_table_Handlers)], narrowed := true }
def TableNamesUptoSaid : Prop := tableNamesUptoRow.holds Tryd.pinned (OpenSpec.upto tableNamesSpec)

/-- 'crossroadlaw07.TableTurns', WHERE WHAT IT READS IS OF BULK AT MOST 1048576: true; the input reads as it did. -/
def tableTurnsUptoRow : OpenClaim := { program := "ytidkhbkndbnnjaadoor", sum := "3742790ed7e96c0108b2f63aa55fd5617579003dabbe93373ebfa48d0e144698", func := "crossroad/crossroadlaw07.TableTurns", spec := "tableTurns", named := ["crossroad/table.Handlers"], plainKeys := false, apart := false, laid := [("crossroad/table.Handlers", laid_crossroad_table_Handlers)], narrowed := true }
def TableTurnsUptoSaid : Prop := tableTurnsUptoRow.holds Tryd.pinned (OpenSpec.upto tableTurnsSpec)

/-- 'crossroadlaw07.TableBack', WHERE WHAT IT READS IS OF BULK AT MOST 1048576: true; the input reads as it did. -/
def tableBackUptoRow : OpenClaim := { program := "ytidkhbkndbnnjaadoor", sum := "3742790ed7e96c0108b2f63aa55fd5617579003dabbe93373ebfa48d0e144698", func := "crossroad/crossroadlaw07.TableBack", spec := "tableBack", named := ["crossroad/table.Handlers"], plainKeys := false, apart := false, laid := [("crossroad/table.Handlers", laid_crossroad_table_Handlers)], narrowed := true }
def TableBackUptoSaid : Prop := tableBackUptoRow.holds Tryd.pinned (OpenSpec.upto tableBackSpec)

/-- 'crossroadlaw07.TableAny', WHERE WHAT IT READS IS OF BULK AT MOST 1048576: true; the input reads as it did. -/
def tableAnyUptoRow : OpenClaim := { program := "ytidkhbkndbnnjaadoor", sum := "3742790ed7e96c0108b2f63aa55fd5617579003dabbe93373ebfa48d0e144698", func := "crossroad/crossroadlaw07.TableAny", spec := "tableAny", named := ["crossroad/table.Handlers"], plainKeys := false, apart := false, laid := [("crossroad/table.Handlers", laid_crossroad_table_Handlers)], narrowed := true }
def TableAnyUptoSaid : Prop := tableAnyUptoRow.holds Tryd.pinned (OpenSpec.upto tableAnySpec)

end Rows
end Go.Proofs.YtidkhbkndbnnjaaDoor

-- Written for this claim by a program of this session (wip/xprint.py). Not trusted: Lean checks it.
import Derived.Test.YtkdmjkoojipofaaProg
import Derived.Below
import Derived.Deep.Draws
import Derived.Deep.AppendLies
import Derived.Maps.AppendAt
import Derived.OwnWalk
import Derived.Laws.BytesArg
import Derived.Laws.MakeOwn
import Derived.Laws.OwnMore
import Derived.Deep.OwnRows
import Derived.Tactics
import Derived.Lib.ConvBytes
import Derived.Laws.Slices
import Derived.WalkKit
import Derived.KernelRfl
import Derived.RowKit3
import Derived.Deep.LoopGhost
import Derived.Deep.QuietTactic
import Derived.BigQuiet
import Derived.WideLaws
import Derived.Deep.DeepCutAuto
import Derived.Deep.CutBlock
import Derived.Deep.RegionHeld3
import Derived.Laws.Rows
import Derived.Lib.AppendStr
import Derived.ArgAppend
import Derived.Laws.IdiomCopy
import Derived.OrdersHeld
import Derived.Laws.BitsLemmas
import Derived.RowKit
import Derived.Test.YtkdmjkoojipofaaWWords
import Derived.Test.YtkdmjkoojipofaaWLast
import Derived.Test.YtkdmjkoojipofaaWTab
import Derived.Test.YtkdmjkoojipofaaWFour
import Derived.Test.YtkdmjkoojipofaaWQPut
import Derived.Test.YtkdmjkoojipofaaWApart
import Derived.Test.YtkdmjkoojipofaaWArr
import Derived.Test.YtkdmjkoojipofaaWZeros
import Derived.Test.YtkdmjkoojipofaaWFoot
import Derived.Test.YtkdmjkoojipofaaWKept
import Derived.Test.YtkdmjkoojipofaaWShare
import Derived.Test.YtkdmjkoojipofaaWN
import Derived.Test.YtkdmjkoojipofaaWFootNe
import Derived.Test.YtkdmjkoojipofaaWAt
import Derived.Test.YtkdmjkoojipofaaWEqStruct
import Derived.Test.YtkdmjkoojipofaaWRepsOne
import Derived.Test.YtkdmjkoojipofaaWInv
import Derived.Test.YtkdmjkoojipofaaWInvWords
import Derived.Test.YtkdmjkoojipofaaWGuard
import Derived.Test.YtkdmjkoojipofaaWNEv
import Derived.Test.YtkdmjkoojipofaaWMore
import Derived.Test.YtkdmjkoojipofaaXWords
import Derived.Test.YtkdmjkoojipofaaXObj
namespace Go.Proofs.Ytkdmjkoojipofaa.X
open Go.RowKit Go.Proofs.YtkdmjkoojipofaaW.PrintWords Go.Proofs.YtkdmjkoojipofaaW.PrintLast Go.Proofs.YtkdmjkoojipofaaW.PrintMore
attribute [local go_sem] max2_int min2_int max_two min_two max_three min_three max_four min_four   -- for this text's walks alone
set_option linter.unusedVariables false
set_option linter.unusedSimpArgs false



def errW : Option Int → Value
  | none => .nilIface
  | some c => .iface 0 (.int .i64 c)
theorem errW_none : errW none = .nilIface := rfl
theorem errW_some (c : Int) : errW (some c) = .iface 0 (.int .i64 c) := rfl

theorem info3 : (Try.prog.info? 3).map (fun i => (i.zero, i.size, i.bytes)) = some (some (.int .i64 0), 1, 8) := by kernel_rfl
theorem info9 : (Try.prog.info? 9).map (fun i => (i.zero, i.size, i.bytes)) = some (some (.string ⟨#[]⟩), 1, 16) := by kernel_rfl
-- the values' own types

end Go.Proofs.Ytkdmjkoojipofaa.X

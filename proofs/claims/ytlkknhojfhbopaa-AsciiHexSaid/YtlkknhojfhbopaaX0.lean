-- Written for this claim by a program of this session (wip/xprint.py). Not trusted: Lean checks it.
import Derived.Test.YtlkknhojfhbopaaProg
import Derived.Below
import Derived.Deep.Draws
import Derived.Deep.AppendLies
import Derived.Maps.AppendAt
import Derived.OwnWalk
import Derived.Laws.BytesArg
import Derived.Laws.MakeOwn
import Derived.Laws.OwnMore
import Derived.Deep.OwnRows
import Derived.Tactics
import Derived.Lib.ConvBytes
import Derived.Laws.Slices
import Derived.WalkKit
import Derived.KernelRfl
import Derived.RowKit3
import Derived.Deep.LoopGhost
import Derived.Deep.QuietTactic
import Derived.BigQuiet
import Derived.WideLaws
import Derived.Deep.DeepCutAuto
import Derived.Deep.CutBlock
import Derived.Deep.RegionHeld3
import Derived.Laws.Rows
import Derived.Lib.AppendStr
import Derived.ArgAppend
import Derived.Laws.IdiomCopy
import Derived.OrdersHeld
import Derived.Laws.BitsLemmas
import Derived.RowKit
import Derived.Test.YtlkknhojfhbopaaWWords
import Derived.Test.YtlkknhojfhbopaaWLast
import Derived.Test.YtlkknhojfhbopaaWTab
import Derived.Test.YtlkknhojfhbopaaWFour
import Derived.Test.YtlkknhojfhbopaaWQPut
import Derived.Test.YtlkknhojfhbopaaWApart
import Derived.Test.YtlkknhojfhbopaaWArr
import Derived.Test.YtlkknhojfhbopaaWZeros
import Derived.Test.YtlkknhojfhbopaaWFoot
import Derived.Test.YtlkknhojfhbopaaWKept
import Derived.Test.YtlkknhojfhbopaaWShare
import Derived.Test.YtlkknhojfhbopaaWN
import Derived.Test.YtlkknhojfhbopaaWFootNe
import Derived.Test.YtlkknhojfhbopaaWAt
import Derived.Test.YtlkknhojfhbopaaWEqStruct
import Derived.Test.YtlkknhojfhbopaaWRepsOne
import Derived.Test.YtlkknhojfhbopaaWInv
import Derived.Test.YtlkknhojfhbopaaWInvWords
import Derived.Test.YtlkknhojfhbopaaWGuard
import Derived.Test.YtlkknhojfhbopaaWNEv
import Derived.Test.YtlkknhojfhbopaaWMore
import Derived.Test.YtlkknhojfhbopaaXWords
namespace Go.Proofs.Ytlkknhojfhbopaa.X
open Go.RowKit Go.Proofs.YtlkknhojfhbopaaW.PrintWords Go.Proofs.YtlkknhojfhbopaaW.PrintLast Go.Proofs.YtlkknhojfhbopaaW.PrintMore
attribute [local go_sem] max2_int min2_int max_two min_two max_three min_three max_four min_four   -- for this text's walks alone
set_option linter.unusedVariables false
set_option linter.unusedSimpArgs false



def errW : Option Int → Value
  | none => .nilIface
  | some c => .iface 0 (.int .i64 c)
theorem errW_none : errW none = .nilIface := rfl
theorem errW_some (c : Int) : errW (some c) = .iface 0 (.int .i64 c) := rfl

theorem info5 : (Try.prog.info? 5).map (fun i => (i.zero, i.size, i.bytes)) = some (some (.int .u8 0), 1, 1) := by kernel_rfl
theorem info9 : (Try.prog.info? 9).map (fun i => (i.zero, i.size, i.bytes)) = some (some (.string ⟨#[]⟩), 1, 16) := by kernel_rfl
-- the values' own types

end Go.Proofs.Ytlkknhojfhbopaa.X

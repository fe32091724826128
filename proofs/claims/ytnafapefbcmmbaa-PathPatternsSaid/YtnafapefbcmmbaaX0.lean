-- Written for this claim by a program of this session (wip/xprint.py). Not trusted: Lean checks it.
import Derived.Test.YtnafapefbcmmbaaProg
import Derived.Below
import Derived.Deep.Draws
import Derived.Deep.AppendLies
import Derived.Maps.AppendAt
import Derived.OwnWalk
import Derived.Laws.BytesArg
import Derived.Laws.MakeOwn
import Derived.Laws.OwnMore
import Derived.Deep.OwnRows
import Derived.Tactics
import Derived.Lib.ConvBytes
import Derived.Laws.Slices
import Derived.WalkKit
import Derived.KernelRfl
import Derived.RowKit3
import Derived.Deep.LoopGhost
import Derived.Deep.QuietTactic
import Derived.BigQuiet
import Derived.WideLaws
import Derived.Deep.DeepCutAuto
import Derived.Deep.CutBlock
import Derived.Deep.RegionHeld3
import Derived.Laws.Rows
import Derived.Lib.AppendStr
import Derived.ArgAppend
import Derived.Laws.IdiomCopy
import Derived.OrdersHeld
import Derived.Laws.BitsLemmas
import Derived.RowKit
import Derived.Test.YtnafapefbcmmbaaWWords
import Derived.Test.YtnafapefbcmmbaaWLast
import Derived.Test.YtnafapefbcmmbaaWTab
import Derived.Test.YtnafapefbcmmbaaWFour
import Derived.Test.YtnafapefbcmmbaaWQPut
import Derived.Test.YtnafapefbcmmbaaWApart
import Derived.Test.YtnafapefbcmmbaaWArr
import Derived.Test.YtnafapefbcmmbaaWZeros
import Derived.Test.YtnafapefbcmmbaaWFoot
import Derived.Test.YtnafapefbcmmbaaWKept
import Derived.Test.YtnafapefbcmmbaaWShare
import Derived.Test.YtnafapefbcmmbaaWN
import Derived.Test.YtnafapefbcmmbaaWFootNe
import Derived.Test.YtnafapefbcmmbaaWAt
import Derived.Test.YtnafapefbcmmbaaWEqStruct
import Derived.Test.YtnafapefbcmmbaaWRepsOne
import Derived.Test.YtnafapefbcmmbaaWInv
import Derived.Test.YtnafapefbcmmbaaWInvWords
import Derived.Test.YtnafapefbcmmbaaWGuard
import Derived.Test.YtnafapefbcmmbaaWNEv
import Derived.Test.YtnafapefbcmmbaaWMore
import Derived.Test.YtnafapefbcmmbaaXWords
import Derived.Test.YtnafapefbcmmbaaXMap
namespace Go.Proofs.Ytnafapefbcmmbaa.X
open Go.RowKit Go.Proofs.YtnafapefbcmmbaaW.PrintWords Go.Proofs.YtnafapefbcmmbaaW.PrintLast Go.Proofs.YtnafapefbcmmbaaW.PrintMore
attribute [local go_sem] max2_int min2_int max_two min_two max_three min_three max_four min_four   -- for this text's walks alone
set_option linter.unusedVariables false
set_option linter.unusedSimpArgs false



def errW : Option Int → Value
  | none => .nilIface
  | some c => .iface 0 (.int .i64 c)
theorem errW_none : errW none = .nilIface := rfl
theorem errW_some (c : Int) : errW (some c) = .iface 0 (.int .i64 c) := rfl

theorem info5 : (Try.prog.info? 5).map (fun i => (i.zero, i.size, i.bytes)) = some (some (.int .u8 0), 1, 1) := by kernel_rfl
theorem info9 : (Try.prog.info? 9).map (fun i => (i.zero, i.size, i.bytes)) = some (some (.string ⟨#[]⟩), 1, 16) := by kernel_rfl
-- the values' own types

end Go.Proofs.Ytnafapefbcmmbaa.X

-- Words of the print, those that this seat's texts need: cut out by wip/prune.py. Not trusted: Lean checks it.
import Derived.Test.YtldaingkcnmaoaaWTab
/-! ### 56. Four, five, six operations that may come up next, in any order -/
namespace Go.Proofs.YtldaingkcnmaoaaW.PrintLast
section
variable {P : Program} {ops : Array Oper} {Q : Exit → Act → World → Prop} {md : Region.Mode} {S : World → Prop} {ds : List Nat} {T : Bool × List (List Nat × List Nat)}
end
end Go.Proofs.YtldaingkcnmaoaaW.PrintLast

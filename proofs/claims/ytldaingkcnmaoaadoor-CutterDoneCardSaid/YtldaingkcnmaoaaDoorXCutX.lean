-- Made smaller by wip/squeeze.py out of this claim's texts. Not trusted: Lean checks it.
import Derived.Test.YtldaingkcnmaoaaDoorXCutW
set_option linter.unusedVariables false
set_option linter.unusedSimpArgs false
namespace Go.Proofs.YtldaingkcnmaoaaDoor.X
open Go.RowKit Go.Proofs.YtldaingkcnmaoaaDoorW.PrintWords Go.Proofs.YtldaingkcnmaoaaDoorW.PrintLast Go.Proofs.YtldaingkcnmaoaaDoorW.PrintMore
attribute [local go_sem] max2_int min2_int max_two min_two max_three min_three max_four min_four
set_option maxRecDepth 100000 in
theorem cut_done (V : Value) (n : Nat) (a0 : CutS) (w : World) (hO : CutOwn w n V a0) :
    Calls Tryd.prog 14 #[V] w fun e w' => e = .returned (.bool a0.done) ∧ Drawn0 w w' := by
  obtain ⟨g, vs, vl, vf, vb, rfl, hb⟩ := hO
  have c13 : w.cell? ⟨g, 13, none⟩ = some (.bool a0.done) := (blk_cell hb.blk 13).trans rfl
  clear hb
  go_enter Tryd.func14, Tryd.ntmps14
  go_wp2
  go_ret
  exact ⟨rfl, Drawn0.refl _⟩
set_option maxRecDepth 100000 in
theorem cut_left (V : Value) (n : Nat) (a0 : CutS) (w : World) (hO : CutOwn w n V a0) :
    Calls Tryd.prog 16 #[V] w fun e w' => e = .returned (.int .i64 (a0.wait.size : Int)) ∧ Drawn0 w w' := by
  obtain ⟨g, vs, vl, vf, vb, rfl, hb⟩ := hO
  have c0 : w.cell? ⟨g, 0, none⟩ = some (.string a0.wait) := (blk_cell hb.blk 0).trans rfl
  clear hb
  go_enter Tryd.func16, Tryd.ntmps16
  go_wp2
  go_ret
  exact ⟨rfl, Drawn0.refl _⟩
end Go.Proofs.YtldaingkcnmaoaaDoor.X

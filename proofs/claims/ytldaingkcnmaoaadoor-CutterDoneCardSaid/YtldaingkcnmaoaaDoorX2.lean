-- Made smaller by wip/squeeze.py out of this claim's texts. Not trusted: Lean checks it.
import Derived.Test.YtldaingkcnmaoaaDoorX0
namespace Go.Proofs.YtldaingkcnmaoaaDoor.X
open Go.RowKit Go.Proofs.YtldaingkcnmaoaaDoorW.PrintWords Go.Proofs.YtldaingkcnmaoaaDoorW.PrintLast Go.Proofs.YtldaingkcnmaoaaDoorW.PrintMore
attribute [local go_sem] max2_int min2_int max_two min_two max_three min_three max_four min_four
set_option linter.unusedVariables false
set_option linter.unusedSimpArgs false
def body_Body_Done.f (a0 : BodyS) : Option Bool := some a0.done
theorem body_Body_Done.calls (V : Value) (base : Base) (a0 : BodyS) (r : Bool) (w : World) (hO : BodyOwn w base V a0) (h : body_Body_Done.f a0 = some r) :
    Calls Tryd.prog 20 #[V] w fun e w' => e = .returned (.bool r) ∧ Drawn0 w w' := by
 obtain ⟨g, vl, vd, rfl, hb⟩ := hO
 obtain rfl := Option.some.inj h
 have c6 : w.cell? ⟨g, 6, none⟩ = some (.bool a0.done) := (blk_cell hb.blk 6).trans rfl
 clear h hb
 go_enter Tryd.func20, Tryd.ntmps20
 go_wp2
 go_ret
 exact ⟨rfl, Drawn0.refl _⟩
def body_Body_Status.f (a0 : BodyS) : Option Int := some a0.status
theorem body_Body_Status.calls (V : Value) (base : Base) (a0 : BodyS) (r : Int) (w : World) (hO : BodyOwn w base V a0) (h : body_Body_Status.f a0 = some r) :
    Calls Tryd.prog 33 #[V] w fun e w' => e = .returned (.int .i64 r) ∧ Drawn0 w w' := by
 obtain ⟨g, vl, vd, rfl, hb⟩ := hO
 obtain rfl := Option.some.inj h
 have c5 : w.cell? ⟨g, 5, none⟩ = some (.int .i64 a0.status) := (blk_cell hb.blk 5).trans rfl
 clear h hb
 go_enter Tryd.func33, Tryd.ntmps33
 go_wp2
 go_ret
 exact ⟨rfl, Drawn0.refl _⟩
def body_Body_Data.f (a0 : BodyS) : Option ByteArray := some (strOfNums (nts a0.data))
theorem body_Body_Data.calls (V : Value) (base : Base) (a0 : BodyS) (r : ByteArray) (w : World) (hO : BodyOwn w base V a0) (h : body_Body_Data.f a0 = some r) :
    Calls Tryd.prog 35 #[V] w fun e w' => e = .returned (.string r) ∧ Drawn0 w w' := by
 obtain ⟨g, vl, vd, rfl, hb⟩ := hO
 obtain rfl := Option.some.inj h
 obtain ⟨A, cp, rfl⟩ := own_slice hb.data
 have c4 : w.cell? ⟨g, 4, none⟩ = some (.slice A a0.data.length cp) := (blk_cell hb.blk 4).trans rfl
 have cv := own_string (P := Tryd.prog) (src := 46) (dst := 9) Tryd.underlying46 Tryd.underlying5 Tryd.underlying9 hb.data
 clear h hb
 go_enter Tryd.func35, Tryd.ntmps35
 go_wp2
 go_ret
 exact ⟨rfl, Drawn0.refl _⟩
end Go.Proofs.YtldaingkcnmaoaaDoor.X

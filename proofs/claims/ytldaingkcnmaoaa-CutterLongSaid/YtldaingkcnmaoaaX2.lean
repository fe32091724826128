-- Written for this claim by a program of this session (wip/xprint.py). Not trusted: Lean checks it.
import Derived.Test.YtldaingkcnmaoaaX0
namespace Go.Proofs.Ytldaingkcnmaoaa.X
open Go.RowKit Go.Proofs.YtldaingkcnmaoaaW.PrintWords Go.Proofs.YtldaingkcnmaoaaW.PrintLast Go.Proofs.YtldaingkcnmaoaaW.PrintMore
attribute [local go_sem] max2_int min2_int max_two min_two max_three min_three max_four min_four   -- for this text's walks alone
set_option linter.unusedVariables false
set_option linter.unusedSimpArgs false

-- NOT PRINTED: function 11 (cutter_New)

-- NOT PRINTED: function 12 (cutter_Cutter_Feed)

/-! ### body_Body_Done: function 10 -/
def body_Body_Done.f (a0 : BodyS) : Option Bool := some a0.done
theorem body_Body_Done.calls (V : Value) (base : Base) (a0 : BodyS) (r : Bool) (w : World) (hO : BodyOwn w base V a0) (h : body_Body_Done.f a0 = some r) :
    Calls Try.prog 10 #[V] w fun e w' => e = .returned (.bool r) ∧ Drawn0 w w' := by
  obtain ⟨g, vl, vd, rfl, hb⟩ := hO
  obtain rfl := Option.some.inj h
  have c6 : w.cell? ⟨g, 6, none⟩ = some (.bool a0.done) := (blk_cell hb.blk 6).trans rfl
  clear h hb
  go_enter Try.func10, Try.ntmps10
  go_wp2
  go_ret
  exact ⟨rfl, Drawn0.refl _⟩

/-! ### body_Body_Status: function 29 -/
def body_Body_Status.f (a0 : BodyS) : Option Int := some a0.status
theorem body_Body_Status.calls (V : Value) (base : Base) (a0 : BodyS) (r : Int) (w : World) (hO : BodyOwn w base V a0) (h : body_Body_Status.f a0 = some r) :
    Calls Try.prog 29 #[V] w fun e w' => e = .returned (.int .i64 r) ∧ Drawn0 w w' := by
  obtain ⟨g, vl, vd, rfl, hb⟩ := hO
  obtain rfl := Option.some.inj h
  have c5 : w.cell? ⟨g, 5, none⟩ = some (.int .i64 a0.status) := (blk_cell hb.blk 5).trans rfl
  clear h hb
  go_enter Try.func29, Try.ntmps29
  go_wp2
  go_ret
  exact ⟨rfl, Drawn0.refl _⟩

-- NOT PRINTED: function 30 (cutter_Cutter_fail)

/-! ### body_Body_Data: function 31 -/
def body_Body_Data.f (a0 : BodyS) : Option ByteArray := some (strOfNums (nts a0.data))
theorem body_Body_Data.calls (V : Value) (base : Base) (a0 : BodyS) (r : ByteArray) (w : World) (hO : BodyOwn w base V a0) (h : body_Body_Data.f a0 = some r) :
    Calls Try.prog 31 #[V] w fun e w' => e = .returned (.string r) ∧ Drawn0 w w' := by
  obtain ⟨g, vl, vd, rfl, hb⟩ := hO
  obtain rfl := Option.some.inj h
  obtain ⟨A, cp, rfl⟩ := own_slice hb.data
  have c4 : w.cell? ⟨g, 4, none⟩ = some (.slice A a0.data.length cp) := (blk_cell hb.blk 4).trans rfl
  have cv := own_string (P := Try.prog) (src := 52) (dst := 9) Try.underlying52 Try.underlying5 Try.underlying9 hb.data
  clear h hb
  go_enter Try.func31, Try.ntmps31
  go_wp2
  go_ret
  exact ⟨rfl, Drawn0.refl _⟩

-- NOT PRINTED: function 21 (cutter_Cutter_end)

-- NOT PRINTED: function 33 (body_Body_fail)

-- NOT PRINTED: function 32 (body_Body_take)

end Go.Proofs.Ytldaingkcnmaoaa.X

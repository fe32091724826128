-- Written for this claim by a program of this session (wip/xprint.py). Not trusted: Lean checks it.
import Derived.Test.YtkdmjkoojipofaaX0
namespace Go.Proofs.Ytkdmjkoojipofaa.X
open Go.RowKit Go.Proofs.YtkdmjkoojipofaaW.PrintWords Go.Proofs.YtkdmjkoojipofaaW.PrintLast Go.Proofs.YtkdmjkoojipofaaW.PrintMore
attribute [local go_sem] max2_int min2_int max_two min_two max_three min_three max_four min_four   -- for this text's walks alone
set_option linter.unusedVariables false
set_option linter.unusedSimpArgs false

/-! ### body_Body_Status: function 11 -/
def body_Body_Status.f (a0 : BodyS) : Option Int := some a0.status
theorem body_Body_Status.calls (V : Value) (base : Base) (a0 : BodyS) (r : Int) (w : World) (hO : BodyOwn w base V a0) (h : body_Body_Status.f a0 = some r) :
    Calls Try.prog 11 #[V] w fun e w' => e = .returned (.int .i64 r) ∧ Drawn0 w w' := by
  obtain ⟨g, vl, vd, rfl, hb⟩ := hO
  obtain rfl := Option.some.inj h
  have c5 : w.cell? ⟨g, 5, none⟩ = some (.int .i64 a0.status) := (blk_cell hb.blk 5).trans rfl
  clear h hb
  go_enter Try.func11, Try.ntmps11
  go_wp2
  go_ret
  exact ⟨rfl, Drawn0.refl _⟩

/-! ### body_Body_Data: function 12 -/
def body_Body_Data.f (a0 : BodyS) : Option ByteArray := some (strOfNums (nts a0.data))
theorem body_Body_Data.calls (V : Value) (base : Base) (a0 : BodyS) (r : ByteArray) (w : World) (hO : BodyOwn w base V a0) (h : body_Body_Data.f a0 = some r) :
    Calls Try.prog 12 #[V] w fun e w' => e = .returned (.string r) ∧ Drawn0 w w' := by
  obtain ⟨g, vl, vd, rfl, hb⟩ := hO
  obtain rfl := Option.some.inj h
  obtain ⟨A, cp, rfl⟩ := own_slice hb.data
  have c4 : w.cell? ⟨g, 4, none⟩ = some (.slice A a0.data.length cp) := (blk_cell hb.blk 4).trans rfl
  have cv := own_string (P := Try.prog) (src := 39) (dst := 9) Try.underlying39 Try.underlying5 Try.underlying9 hb.data
  clear h hb
  go_enter Try.func12, Try.ntmps12
  go_wp2
  go_ret
  exact ⟨rfl, Drawn0.refl _⟩

/-! ### body_Body_Done: function 13 -/
def body_Body_Done.f (a0 : BodyS) : Option Bool := some a0.done
theorem body_Body_Done.calls (V : Value) (base : Base) (a0 : BodyS) (r : Bool) (w : World) (hO : BodyOwn w base V a0) (h : body_Body_Done.f a0 = some r) :
    Calls Try.prog 13 #[V] w fun e w' => e = .returned (.bool r) ∧ Drawn0 w w' := by
  obtain ⟨g, vl, vd, rfl, hb⟩ := hO
  obtain rfl := Option.some.inj h
  have c6 : w.cell? ⟨g, 6, none⟩ = some (.bool a0.done) := (blk_cell hb.blk 6).trans rfl
  clear h hb
  go_enter Try.func13, Try.ntmps13
  go_wp2
  go_ret
  exact ⟨rfl, Drawn0.refl _⟩

-- NOT PRINTED: function 20 (body_Body_fail)

-- NOT PRINTED: function 19 (body_Body_take)

end Go.Proofs.Ytkdmjkoojipofaa.X

/- What the listed variable holds: the handlers' names, cell by cell. -/
import Derived.Test.YtidkhbkndbnnjaaDoorX9
import Derived.Test.YtidkhbkndbnnjaaDoorRows
import Derived.ProofKit
import Derived.LaidMore
import Derived.OpenShut
import Derived.Stop.Joined
set_option linter.unusedVariables false
set_option linter.unusedSimpArgs false
namespace Go.Proofs.YtidkhbkndbnnjaaDoor.M
open Go.RowKit Go.Proofs.YtidkhbkndbnnjaaDoorW.PrintWords Go.Proofs.YtidkhbkndbnnjaaDoor.X Go.ChangeShapes Go.WideShapes Go.ChangeAt Go.WideMaps Go.WideElems
def laidAll : List (String × DataW Unit) := [("crossroad/table.Handlers", Rows.laid_crossroad_table_Handlers)]
theorem gHandlers : Tryd.prog.globalNamed "crossroad/table.Handlers" = some 0 := by kernel_rfl
theorem tHandlers : (Tryd.prog.globals[0]?).map (·.type) = some 48 := by kernel_rfl
theorem door_met (os : Os) (args : Array Value) : laidMetH Tryd.prog laidAll ((World.doorLaid Tryd.prog 14 os).forCall (fun _ _ => 0) ⟨#[], args, []⟩).memory :=
  laidMetH_of_parts3 (fuel := 8) (laidMet_of_run' 8 (by kernel_rfl) (by kernel_rfl)) (by kernel_rfl) (by kernel_rfl)
theorem glob_of_laid {W : World} (h : laidMetH Tryd.prog laidAll W) : GlobOK W := by
  unfold laidAll at h
  rw [MakeChecks.laidMetH_plain _ _ _ (by kernel_rfl)] at h
  obtain ⟨ps, ⟨g0, t0, cs0, f0, p0, q0, hg0, ht0, hv0, hd0, _, _⟩, _, _⟩ := h
  obtain rfl := Option.some.inj (gHandlers.symm.trans hg0)
  obtain rfl := Option.some.inj (tHandlers.symm.trans ht0)
  obtain ⟨xs, m1, rfl, hx1, hlen, hn3, hel⟩ := DataW.trod_array Tryd.underlying48 hd0
  have c1 : Tryd.prog.cellsOf 9 = 1 := by kernel_rfl
  intro i l hi
  have hi8 : i < 8 := (List.getElem?_eq_some_iff.1 hi).1
  have hc := World.var?_cell hg0 hv0 i
  have he := hel i hi8
  have hd : Rows.laid_crossroad_table_Handlers = (DataW.agg (hlists.map fun l => .lit (.string l)) : DataW Unit) := rfl
  rw [hd] at hx1
  simp only [Prod.mk.injEq, DataW.agg.injEq] at hx1
  have hxi : (xs.map (·.1))[i]? = some (.lit (.string l)) := by rw [← hx1.1, List.getElem?_map, hi]; rfl
  rw [List.getElem?_map] at hxi
  obtain ⟨x, hx, hx2⟩ := Option.map_eq_some_iff.1 hxi
  rw [hx] at he
  obtain ⟨s, e1, e2, _⟩ := DataW.trod_string Tryd.underlying9 he
  rw [e2] at hx2
  have hs : s.data.toList = l := by simpa using hx2
  have hsl : (⟨l.toArray⟩ : ByteArray) = s := by rw [← hs]
  rw [hc, hsl]
  rw [c1, Nat.mul_one] at e1
  have : (cs0.toList.drop i)[0]? = some (Value.string s) := by
    have h0 := congrArg (fun z => z[0]?) e1
    simpa using h0
  simpa using this
end Go.Proofs.YtidkhbkndbnnjaaDoor.M

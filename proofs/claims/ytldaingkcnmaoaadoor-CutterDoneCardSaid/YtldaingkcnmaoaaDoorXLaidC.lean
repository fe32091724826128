-- Made smaller by wip/squeeze.py out of this claim's texts. Not trusted: Lean checks it.
import Derived.Test.YtldaingkcnmaoaaDoorXSeedT
import Derived.Test.YtldaingkcnmaoaaDoorRows
import Derived.ProofKit
import Derived.LaidMore
import Derived.OpenShut
import Derived.Stop.Joined
set_option linter.unusedVariables false
set_option linter.unusedSimpArgs false
namespace Go.Proofs.YtldaingkcnmaoaaDoor.M
open Go.RowKit Go.Proofs.YtldaingkcnmaoaaDoorW.PrintWords Go.Proofs.YtldaingkcnmaoaaDoor.X Go.ChangeShapes Go.WideShapes Go.ChangeAt Go.WideMaps Go.WideElems
def laidAll : List (String × DataW Unit) := [("crossroad/crossroadlaw04.methods", Rows.laid_crossroad_crossroadlaw04_methods), ("crossroad/crossroadlaw04.targets", Rows.laid_crossroad_crossroadlaw04_targets), ("crossroad/crossroadlaw04.bodies", Rows.laid_crossroad_crossroadlaw04_bodies)]
theorem g_methods : Tryd.prog.globalNamed "crossroad/crossroadlaw04.methods" = some 2 := by kernel_rfl
theorem t_methods : (Tryd.prog.globals[2]?).map (·.type) = some 44 := by kernel_rfl
theorem g_targets : Tryd.prog.globalNamed "crossroad/crossroadlaw04.targets" = some 1 := by kernel_rfl
theorem t_targets : (Tryd.prog.globals[1]?).map (·.type) = some 43 := by kernel_rfl
theorem g_bodies : Tryd.prog.globalNamed "crossroad/crossroadlaw04.bodies" = some 0 := by kernel_rfl
theorem t_bodies : (Tryd.prog.globals[0]?).map (·.type) = some 42 := by kernel_rfl
theorem door_met (os : Os) (args : Array Value) : laidMetH Tryd.prog laidAll ((World.doorLaid Tryd.prog 24 os).forCall (fun _ _ => 0) ⟨#[], args, []⟩).memory :=
  laidMetH_of_parts3 (fuel := 8) (laidMet_of_run' 8 (by kernel_rfl) (by kernel_rfl)) (by kernel_rfl) (by kernel_rfl)
theorem glob_of_laid {W : World} (h : laidMetH Tryd.prog laidAll W) : GlobOK W := by
  unfold laidAll at h
  rw [MakeChecks.laidMetH_plain _ _ _ (by kernel_rfl)] at h
  have c1 : Tryd.prog.cellsOf 9 = 1 := by kernel_rfl
  obtain ⟨ps, ⟨g0, t0, cs0, f0, p0, q0, hg0, ht0, hv0, hd0, r0, _⟩, _, _⟩ := h
  obtain ⟨g1, t1, cs1, f1, p1, q1, hg1, ht1, hv1, hd1, r1, _⟩ := r0
  obtain ⟨g2, t2, cs2, f2, p2, q2, hg2, ht2, hv2, hd2, r2, _⟩ := r1
  obtain rfl := Option.some.inj (g_methods.symm.trans hg0)
  obtain rfl := Option.some.inj (t_methods.symm.trans ht0)
  have k_m : ∀ (i : Nat) (l : List UInt8), methodsL[i]? = some l → W.cell? ⟨2, i, none⟩ = some (.string ⟨l.toArray⟩) := by
    obtain ⟨xs, m1, rfl, hx1, hlen, hn3, hel⟩ := DataW.trod_array Tryd.underlying44 hd0
    intro i l hi
    have hi8 : i < 6 := (List.getElem?_eq_some_iff.1 hi).1
    have hc := World.var?_cell hg0 hv0 i
    have he := hel i hi8
    have hd : Rows.laid_crossroad_crossroadlaw04_methods = (DataW.agg (methodsL.map fun l => .lit (.string l)) : DataW Unit) := rfl
    rw [hd] at hx1
    simp only [Prod.mk.injEq, DataW.agg.injEq] at hx1
    have hxi : (xs.map (·.1))[i]? = some (.lit (.string l)) := by rw [← hx1.1, List.getElem?_map, hi]; rfl
    rw [List.getElem?_map] at hxi
    obtain ⟨x, hx, hx2⟩ := Option.map_eq_some_iff.1 hxi
    rw [hx] at he
    obtain ⟨s, e1, e2, _⟩ := DataW.trod_string Tryd.underlying9 he
    rw [e2] at hx2
    have hs : s.data.toList = l := by simpa using hx2
    have hsl : (⟨l.toArray⟩ : ByteArray) = s := by rw [← hs]
    rw [hc, hsl]
    rw [c1, Nat.mul_one] at e1
    have : (cs0.toList.drop i)[0]? = some (Value.string s) := by
      have h0 := congrArg (fun z => z[0]?) e1
      simpa using h0
    simpa using this
  obtain rfl := Option.some.inj (g_targets.symm.trans hg1)
  obtain rfl := Option.some.inj (t_targets.symm.trans ht1)
  have k_t : ∀ (i : Nat) (l : List UInt8), targetsL[i]? = some l → W.cell? ⟨1, i, none⟩ = some (.string ⟨l.toArray⟩) := by
    obtain ⟨xs, m1, rfl, hx1, hlen, hn3, hel⟩ := DataW.trod_array Tryd.underlying43 hd1
    intro i l hi
    have hi8 : i < 16 := (List.getElem?_eq_some_iff.1 hi).1
    have hc := World.var?_cell hg1 hv1 i
    have he := hel i hi8
    have hd : Rows.laid_crossroad_crossroadlaw04_targets = (DataW.agg (targetsL.map fun l => .lit (.string l)) : DataW Unit) := rfl
    rw [hd] at hx1
    simp only [Prod.mk.injEq, DataW.agg.injEq] at hx1
    have hxi : (xs.map (·.1))[i]? = some (.lit (.string l)) := by rw [← hx1.1, List.getElem?_map, hi]; rfl
    rw [List.getElem?_map] at hxi
    obtain ⟨x, hx, hx2⟩ := Option.map_eq_some_iff.1 hxi
    rw [hx] at he
    obtain ⟨s, e1, e2, _⟩ := DataW.trod_string Tryd.underlying9 he
    rw [e2] at hx2
    have hs : s.data.toList = l := by simpa using hx2
    have hsl : (⟨l.toArray⟩ : ByteArray) = s := by rw [← hs]
    rw [hc, hsl]
    rw [c1, Nat.mul_one] at e1
    have : (cs1.toList.drop i)[0]? = some (Value.string s) := by
      have h0 := congrArg (fun z => z[0]?) e1
      simpa using h0
    simpa using this
  obtain rfl := Option.some.inj (g_bodies.symm.trans hg2)
  obtain rfl := Option.some.inj (t_bodies.symm.trans ht2)
  have k_b : ∀ (i : Nat) (l : List UInt8), bodiesL[i]? = some l → W.cell? ⟨0, i, none⟩ = some (.string ⟨l.toArray⟩) := by
    obtain ⟨xs, m1, rfl, hx1, hlen, hn3, hel⟩ := DataW.trod_array Tryd.underlying42 hd2
    intro i l hi
    have hi8 : i < 8 := (List.getElem?_eq_some_iff.1 hi).1
    have hc := World.var?_cell hg2 hv2 i
    have he := hel i hi8
    have hd : Rows.laid_crossroad_crossroadlaw04_bodies = (DataW.agg (bodiesL.map fun l => .lit (.string l)) : DataW Unit) := rfl
    rw [hd] at hx1
    simp only [Prod.mk.injEq, DataW.agg.injEq] at hx1
    have hxi : (xs.map (·.1))[i]? = some (.lit (.string l)) := by rw [← hx1.1, List.getElem?_map, hi]; rfl
    rw [List.getElem?_map] at hxi
    obtain ⟨x, hx, hx2⟩ := Option.map_eq_some_iff.1 hxi
    rw [hx] at he
    obtain ⟨s, e1, e2, _⟩ := DataW.trod_string Tryd.underlying9 he
    rw [e2] at hx2
    have hs : s.data.toList = l := by simpa using hx2
    have hsl : (⟨l.toArray⟩ : ByteArray) = s := by rw [← hs]
    rw [hc, hsl]
    rw [c1, Nat.mul_one] at e1
    have : (cs2.toList.drop i)[0]? = some (Value.string s) := by
      have h0 := congrArg (fun z => z[0]?) e1
      simpa using h0
    simpa using this
  exact ⟨k_b, k_t, k_m⟩
end Go.Proofs.YtldaingkcnmaoaaDoor.M

/- HeadFields: the values of a name are all that its fields have, in order. No condition. -/
import Derived.Test.YtaafeojjcfognaaXHeadFacts
import Derived.Test.YtaafeojjcfognaaX20
set_option linter.unusedVariables false
set_option linter.unusedSimpArgs false
namespace Go.Proofs.Ytaafeojjcfognaa.Pure
open Go.RowKit Go.Proofs.Ytaafeojjcfognaa.X Go.Proofs.YtaafeojjcfognaaW.PrintWords Go.Proofs.YtaafeojjcfognaaW.PrintLast Go.Proofs.Ytaafeojjcfognaa.M

theorem exFs (l : List (S27)) : ∃ fs : List FldM, l = fs.map fT := by
  induction l with
  | nil => exact ⟨[], rfl⟩
  | cons x r ih =>
    obtain ⟨fs, rfl⟩ := ih
    obtain ⟨a, b⟩ := x
    obtain ⟨a, rfl⟩ := exBA a
    obtain ⟨b, rfl⟩ := exBA b
    exact ⟨(a, b) :: fs, rfl⟩
theorem fields_l0 (name : List UInt8) (fs : List FldM) (hn : fs.length ≤ 40) (post : List FldM) : ∀ pre : List FldM, fs = pre ++ post →
    Ev (fun k => crossroadlaw02_HeadFields.l0 k (toBA name) ((allL name fs).map toBA) ((allL name pre).length : Int) (fs.map fT) (fs.length : Int) (pre.length : Int)) true := by
  induction post with
  | nil =>
    intro pre h
    obtain rfl : pre = fs := by simp [h]
    refine Ev.step' ?_
    simp only [crossroadlaw02_HeadFields.l0, if_neg (show ¬ (pre.length : Int) < (pre.length : Int) by omega), List.length_map]
    exact Ev.const (by simp)
  | cons f r ih =>
    intro pre h
    have hp : pre.length < fs.length := by subst h; simp
    have hr : rd_T27 (fs.map fT) (pre.length : Int) = fT f := by rw [h]; simp [rd_T27]
    have hw : wrap64 ((pre.length : Int) + 1) = ((pre ++ [f]).length : Int) := by rw [w64 (by omega) (by omega)]; simp
    have e : allL name fs = allL name pre ++ allL name (f :: r) := by rw [h, allL_app]
    have ea : allL name (pre ++ [f]) = allL name pre ++ allL name [f] := allL_app name pre [f]
    have := ih (pre ++ [f]) (by simp [h])
    refine Ev.step' ?_
    simp only [crossroadlaw02_HeadFields.l0, if_pos (show (pre.length : Int) < (fs.length : Int) by omega), if_pos (show (0 : Int) ≤ (pre.length : Int) by omega), List.length_map, hr, hw, fT, toBA_toList]
    by_cases hf : f.1 = name
    · rw [allL_cons, if_pos hf] at e
      have hlt : (allL name pre).length < (allL name fs).length := by rw [e]; simp
      have hle : (allL name pre).length ≤ pre.length := all_len name pre
      have hr2 : rdOf ByteArray.empty ((allL name fs).map toBA) ((allL name pre).length : Int) = toBA f.2 := by rw [e]; simp [rdOf]
      have hw2 : wrap64 (((allL name pre).length : Int) + 1) = ((allL name (pre ++ [f])).length : Int) := by
        rw [ea, allL_cons, if_pos hf, w64 (by omega) (by omega)]; simp [allL_nil]
      simp only [if_pos hf, if_neg (show ¬ ((allL name pre).length : Int) ≥ ((allL name fs).length : Int) by omega), if_pos (show (0 : Int) ≤ ((allL name pre).length : Int) by omega), if_pos (show ((allL name pre).length : Int) < ((allL name fs).length : Int) by omega), hr2, toBA_toList, if_true, hw2]
      exact this
    · have e2 : allL name (pre ++ [f]) = allL name pre := by rw [ea, allL_cons, if_neg hf, allL_nil, List.append_nil]
      rw [e2] at this
      simp only [if_neg hf]
      exact this
theorem HeadFields (l0 : List (S27)) (a1 : ByteArray) (_ : l0.length * Try.prog.bytesOf 27 ≤ 140737488351232 ∧ ∀ x ∈ l0, x.f0.size ≤ 140737488351232 ∧ x.f1.size ≤ 140737488351232) (s1 : a1.size ≤ 140737488351232) : ∃ k, crossroadlaw02_HeadFields.f k l0 a1 = some true := by
  obtain ⟨fs, rfl⟩ := exFs l0
  obtain ⟨name, rfl⟩ := exBA a1
  simp only [toBA_size] at s1
  refine Ev.rounds (g := fun k => crossroadlaw02_HeadFields.f k (fs.map fT) (toBA name)) ?_
  simp only [crossroadlaw02_HeadFields.f, toBA_size, List.length_map]
  refine Ev.bind fit_f ?_
  simp only [if_true]
  have out : Ev (fun k => crossroadlaw02_HeadFields.j0 k (fs.map fT) (toBA name) true) true := by
    refine Ev.step' ?_
    simp only [crossroadlaw02_HeadFields.j0, if_true]
    exact Ev.now true
  by_cases h1 : fs.length > 40
  · simp only [if_pos (show (fs.length : Int) > 40 by omega)]
    exact out
  · simp only [if_neg (show ¬ (fs.length : Int) > 40 by omega)]
    by_cases h2 : name.length > 100
    · simp only [decide_eq_true (show (name.length : Int) > 100 by omega)]
      exact out
    · simp only [decide_eq_false (show ¬ (name.length : Int) > 100 by omega)]
      refine Ev.step' ?_
      simp only [crossroadlaw02_HeadFields.j0, Bool.false_eq_true, if_false, List.length_map]
      refine Ev.bind (all_f name fs (by omega)) ?_
      exact fields_l0 name fs (by omega) fs [] rfl
end Go.Proofs.Ytaafeojjcfognaa.Pure

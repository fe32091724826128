-- Made smaller by wip/squeeze.py out of this claim's texts. Not trusted: Lean checks it.
import Derived.Test.YtldaingkcnmaoaaDoorX0
import Derived.ProofKit
import Derived.ChangeArms
import Derived.ChangeSame
import Derived.SizedLaws
import Derived.DataElems
import Derived.OpenShut
set_option linter.unusedVariables false
set_option linter.unusedSimpArgs false
namespace Go.Proofs.YtldaingkcnmaoaaDoor.M
open Go.RowKit Go.ChangeShapes Go.WideShapes
theorem laidOut : laidOutB Tryd.prog = true := by kernel_rfl
theorem open_seed {H : Type} {enc : TypeId × Value → H} {W : World} {base b0 : Nat} {sp : Nat → Bool} {held : Bool} {r : Reach} {v : Value} {d : DataW H} {p : List MemPlace} (hv : Value.okWide Tryd.prog W r b0 23 v) (h : DataW.Trod enc Tryd.prog W base sp held 23 v d p) :
    ∃ (a0 a1 a2 a3 a4 : Int) (a5 : Bool) (a6 : Int), v = .agg #[.int .i64 a0, .int .i64 a1, .int .i64 a2, .int .i64 a3, .int .i64 a4, .bool a5, .int .i64 a6] := by
  obtain ⟨cs, rfl, hsz⟩ := okWide_struct Tryd.underlying23 hv
  rw [show Tryd.prog.cellsOf 23 = 7 by kernel_rfl] at hsz
  obtain ⟨fuel, hf⟩ := h
  obtain ⟨xs, n, _, _, hl, hlen, hfs⟩ := DataW.trod_struct Tryd.underlying23 hf
  have ci : Tryd.prog.cellsOf 3 = 1 := by kernel_rfl
  have cb : Tryd.prog.cellsOf 4 = 1 := by kernel_rfl
  match xs, hlen with
  | [y0, y1, y2, y3, y4, y5, y6], _ =>
    have e0 := hfs 0 _ rfl
    have e1 := hfs 1 _ rfl
    have e2 := hfs 2 _ rfl
    have e3 := hfs 3 _ rfl
    have e4 := hfs 4 _ rfl
    have e5 := hfs 5 _ rfl
    have e6 := hfs 6 _ rfl
    simp only [List.getElem?_cons_zero, List.getElem?_cons_succ, ci, cb, Value.cells] at e0 e1 e2 e3 e4 e5 e6
    obtain ⟨a0, h0, _⟩ := DataW.trod_int Tryd.underlying3 e0
    obtain ⟨a1, h1, _⟩ := DataW.trod_int Tryd.underlying3 e1
    obtain ⟨a2, h2, _⟩ := DataW.trod_int Tryd.underlying3 e2
    obtain ⟨a3, h3, _⟩ := DataW.trod_int Tryd.underlying3 e3
    obtain ⟨a4, h4, _⟩ := DataW.trod_int Tryd.underlying3 e4
    obtain ⟨a5, h5, _⟩ := DataW.trod_bool Tryd.underlying4 e5
    obtain ⟨a6, h6, _⟩ := DataW.trod_int Tryd.underlying3 e6
    refine ⟨a0, a1, a2, a3, a4, a5, a6, ?_⟩
    obtain ⟨l⟩ := cs
    simp only [List.size_toArray] at hsz
    match l, hsz with
    | [x0, x1, x2, x3, x4, x5, x6], _ =>
      simp [ci, cb] at h0 h1 h2 h3 h4 h5 h6
      rw [h0, h1, h2, h3, h4, h5, h6]
end Go.Proofs.YtldaingkcnmaoaaDoor.M

-- Written for this claim by a program of this session (wip/xprint.py). Not trusted: Lean checks it.
import Derived.Test.YtnafapefbcmmbaaX0
import Derived.Test.YtnafapefbcmmbaaX1
import Derived.Test.YtnafapefbcmmbaaX8
import Derived.Test.YtnafapefbcmmbaaX10
import Derived.Test.YtnafapefbcmmbaaX12
namespace Go.Proofs.Ytnafapefbcmmbaa.X
open Go.RowKit Go.Proofs.YtnafapefbcmmbaaW.PrintWords Go.Proofs.YtnafapefbcmmbaaW.PrintLast Go.Proofs.YtnafapefbcmmbaaW.PrintMore
attribute [local go_sem] max2_int min2_int max_two min_two max_three min_three max_four min_four   -- for this text's walks alone
set_option linter.unusedVariables false
set_option linter.unusedSimpArgs false

/-! ### crossroadlaw06_PathPatterns: function 4 -/
mutual
def crossroadlaw06_PathPatterns.j0 : Nat → ByteArray → List ByteArray → Bool → Bool → Option (Bool)
  | 0, _, _, _, _ => none
  | k + 1, x0, x3, x4, x5 => if x5 = true then (if 1 ≤ (x0.size : Int) then ((ascii_Words.f k (x0.extract 1 x0.size) 47).bind fun t173 => (crossroadlaw06_PathPatterns.j1 k x3 x4 x5 t173)) else (none)) else (crossroadlaw06_PathPatterns.j1 k x3 x4 x5 ([] : List ByteArray))
def crossroadlaw06_PathPatterns.j1 : Nat → List ByteArray → Bool → Bool → List ByteArray → Option (Bool)
  | 0, _, _, _, _ => none
  | k + 1, x3, x4, x5, x6 => crossroadlaw06_PathPatterns.l0 k x3 x4 x5 x6 ([] : List (ByteArray × Int)) x6 (x6.length : Int) 0
def crossroadlaw06_PathPatterns.l0 : Nat → List ByteArray → Bool → Bool → List ByteArray → List (ByteArray × Int) → List ByteArray → Int → Int → Option (Bool)
  | 0, _, _, _, _, _, _, _, _ => none
  | k + 1, x3, x4, x5, x6, x7, x42, x43, x44 => if x44 < x43 then (if 0 ≤ x44 then (if x44 < (x42.length : Int) then (if (rdOf ByteArray.empty x42 x44).toList = ([] : List UInt8) then (crossroadlaw06_PathPatterns.l0 k x3 x4 false x6 x7 x42 x43 (wrap64 (x44 + 1))) else (if 0 < ((rdOf ByteArray.empty x42 x44).size : Int) then (if (bt (rdOf ByteArray.empty x42 x44) 0) = 58 then (crossroadlaw06_PathPatterns.j3 k x3 x4 x5 x6 x7 x44 (rdOf ByteArray.empty x42 x44) x42 x43 x44 true) else (crossroadlaw06_PathPatterns.j3 k x3 x4 x5 x6 x7 x44 (rdOf ByteArray.empty x42 x44) x42 x43 x44 ((bt (rdOf ByteArray.empty x42 x44) 0) == 42))) else (none))) else (none)) else (none)) else (if x5 = true then (crossroadlaw06_PathPatterns.j4 k x3 x4 (decide ((x6.length : Int) ≤ 8)) x6) else (crossroadlaw06_PathPatterns.j4 k x3 x4 false x6))
def crossroadlaw06_PathPatterns.j3 : Nat → List ByteArray → Bool → Bool → List ByteArray → List (ByteArray × Int) → Int → ByteArray → List ByteArray → Int → Int → Bool → Option (Bool)
  | 0, _, _, _, _, _, _, _, _, _, _, _ => none
  | k + 1, x3, x4, x5, x6, x7, x8, x9, x42, x43, x44, x63 => if x63 = true then (if 1 ≤ (x9.size : Int) then (if (x9.extract 1 x9.size).size ≤ 9223372036854775807 then (if x7.length < 9223372036854775807 then (if x5 = true then ((ascii_Token.f k (x9.extract 1 x9.size)).bind fun t177 => (if t177 = true then (if (mapGet 0 ((x9.extract 1 x9.size, wrap64 ((mapGet 0 x7 (x9.extract 1 x9.size)) + 1)) :: x7) (x9.extract 1 x9.size)) = 1 then (if 0 < (x9.size : Int) then (if (bt x9 0) = 58 then (crossroadlaw06_PathPatterns.l0 k x3 x4 true x6 ((x9.extract 1 x9.size, wrap64 ((mapGet 0 x7 (x9.extract 1 x9.size)) + 1)) :: x7) x42 x43 (wrap64 (x44 + 1))) else (crossroadlaw06_PathPatterns.l0 k x3 x4 (x8 == (wrap64 ((x6.length : Int) - 1))) x6 ((x9.extract 1 x9.size, wrap64 ((mapGet 0 x7 (x9.extract 1 x9.size)) + 1)) :: x7) x42 x43 (wrap64 (x44 + 1)))) else (none)) else (crossroadlaw06_PathPatterns.l0 k x3 x4 false x6 ((x9.extract 1 x9.size, wrap64 ((mapGet 0 x7 (x9.extract 1 x9.size)) + 1)) :: x7) x42 x43 (wrap64 (x44 + 1)))) else (crossroadlaw06_PathPatterns.l0 k x3 x4 false x6 ((x9.extract 1 x9.size, wrap64 ((mapGet 0 x7 (x9.extract 1 x9.size)) + 1)) :: x7) x42 x43 (wrap64 (x44 + 1))))) else (crossroadlaw06_PathPatterns.l0 k x3 x4 false x6 ((x9.extract 1 x9.size, wrap64 ((mapGet 0 x7 (x9.extract 1 x9.size)) + 1)) :: x7) x42 x43 (wrap64 (x44 + 1)))) else (none)) else (none)) else (none)) else (if x5 = true then ((ascii_Token.f k x9).bind fun t178 => (if t178 = true then ((ascii_Words.f k x9 37).bind fun t179 => (crossroadlaw06_PathPatterns.l0 k x3 x4 ((t179.length : Int) == 1) x6 x7 x42 x43 (wrap64 (x44 + 1)))) else (crossroadlaw06_PathPatterns.l0 k x3 x4 false x6 x7 x42 x43 (wrap64 (x44 + 1))))) else (crossroadlaw06_PathPatterns.l0 k x3 x4 false x6 x7 x42 x43 (wrap64 (x44 + 1))))
def crossroadlaw06_PathPatterns.j4 : Nat → List ByteArray → Bool → Bool → List ByteArray → Option (Bool)
  | 0, _, _, _, _ => none
  | k + 1, x3, x4, x5, x6 => if (x4 != x5) = true then (some false) else (crossroadlaw06_PathPatterns.l1 k x3 x4 x6 (x3.length : Int) 0)
def crossroadlaw06_PathPatterns.l1 : Nat → List ByteArray → Bool → List ByteArray → Int → Int → Option (Bool)
  | 0, _, _, _, _, _ => none
  | k + 1, x3, x4, x6, x113, x114 => if x114 < x113 then (if 0 ≤ x114 then (if x114 < (x3.length : Int) then (if x114 < (x6.length : Int) then (if (rdOf ByteArray.empty x3 x114).toList = (rdOf ByteArray.empty x6 x114).toList then (crossroadlaw06_PathPatterns.l1 k x3 x4 x6 x113 (wrap64 (x114 + 1))) else (some false)) else (none)) else (none)) else (none)) else (if x4 = true then (some ((x3.length : Int) == (x6.length : Int))) else (some true))
end
def crossroadlaw06_PathPatterns.f (k : Nat) (a0 : ByteArray) : Option (Bool) := (crossroadlaw06_fit.f k).bind fun t167 => (if t167 = true then ((crossroadlaw06_light.f a0).bind fun t168 => (if t168 = true then ((path_Pattern.f k a0).bind fun bt169 => (if a0.toList = ([47] : List UInt8) then (if bt169.2 = true then (some ((bt169.1.length : Int) == 0)) else (some false)) else (if (a0.size : Int) > 1 then (if 0 < (a0.size : Int) then (crossroadlaw06_PathPatterns.j0 k a0 bt169.1 bt169.2 ((bt a0 0) == 47)) else (none)) else (crossroadlaw06_PathPatterns.j0 k a0 bt169.1 bt169.2 false)))) else (some true))) else (some false))
theorem crossroadlaw06_PathPatterns.mono_l : ∀ k, (∀ y0 y1 y2 y3, LeO (crossroadlaw06_PathPatterns.j0 k y0 y1 y2 y3) (crossroadlaw06_PathPatterns.j0 (k + 1) y0 y1 y2 y3)) ∧ (∀ y0 y1 y2 y3, LeO (crossroadlaw06_PathPatterns.j1 k y0 y1 y2 y3) (crossroadlaw06_PathPatterns.j1 (k + 1) y0 y1 y2 y3)) ∧ (∀ y0 y1 y2 y3 y4 y5 y6 y7, LeO (crossroadlaw06_PathPatterns.l0 k y0 y1 y2 y3 y4 y5 y6 y7) (crossroadlaw06_PathPatterns.l0 (k + 1) y0 y1 y2 y3 y4 y5 y6 y7)) ∧ (∀ y0 y1 y2 y3 y4 y5 y6 y7 y8 y9 y10, LeO (crossroadlaw06_PathPatterns.j3 k y0 y1 y2 y3 y4 y5 y6 y7 y8 y9 y10) (crossroadlaw06_PathPatterns.j3 (k + 1) y0 y1 y2 y3 y4 y5 y6 y7 y8 y9 y10)) ∧ (∀ y0 y1 y2 y3, LeO (crossroadlaw06_PathPatterns.j4 k y0 y1 y2 y3) (crossroadlaw06_PathPatterns.j4 (k + 1) y0 y1 y2 y3)) ∧ (∀ y0 y1 y2 y3 y4, LeO (crossroadlaw06_PathPatterns.l1 k y0 y1 y2 y3 y4) (crossroadlaw06_PathPatterns.l1 (k + 1) y0 y1 y2 y3 y4))
  | 0 => ⟨fun _ _ _ _ r h => by simp [crossroadlaw06_PathPatterns.j0] at h, fun _ _ _ _ r h => by simp [crossroadlaw06_PathPatterns.j1] at h, fun _ _ _ _ _ _ _ _ r h => by simp [crossroadlaw06_PathPatterns.l0] at h, fun _ _ _ _ _ _ _ _ _ _ _ r h => by simp [crossroadlaw06_PathPatterns.j3] at h, fun _ _ _ _ r h => by simp [crossroadlaw06_PathPatterns.j4] at h, fun _ _ _ _ _ r h => by simp [crossroadlaw06_PathPatterns.l1] at h⟩
  | k + 1 => by
    obtain ⟨ih0, ih1, ih2, ih3, ih4, ih5⟩ := crossroadlaw06_PathPatterns.mono_l k
    refine ⟨?_, ?_, ?_, ?_, ?_, ?_⟩
    · intro y0 y1 y2 y3
      unfold crossroadlaw06_PathPatterns.j0
      repeat' first
      | (with_reducible exact ih0 _ _ _ _)
      | (with_reducible exact ih1 _ _ _ _)
      | (with_reducible exact ih2 _ _ _ _ _ _ _ _)
      | (with_reducible exact ih3 _ _ _ _ _ _ _ _ _ _ _)
      | (with_reducible exact ih4 _ _ _ _)
      | (with_reducible exact ih5 _ _ _ _ _)
      | (with_reducible exact ascii_Token.mono _ _)
      | (with_reducible exact ascii_Words.mono _ _ _)
      | (with_reducible exact crossroadlaw06_fit.mono _)
      | (with_reducible exact path_Pattern.mono _ _)
      | (with_reducible exact LeO.refl _)
      | (with_reducible exact LeO.none _)
      | (with_reducible refine LeO.ite ?_ ?_)
      | (with_reducible refine LeO.bind ?_ (fun _ => ?_))
      | exact ih0 _ _ _ _
      | exact ih1 _ _ _ _
      | exact ih2 _ _ _ _ _ _ _ _
      | exact ih3 _ _ _ _ _ _ _ _ _ _ _
      | exact ih4 _ _ _ _
      | exact ih5 _ _ _ _ _
      | exact ascii_Token.mono _ _
      | exact ascii_Words.mono _ _ _
      | exact crossroadlaw06_fit.mono _
      | exact path_Pattern.mono _ _
      | exact LeO.none _
      | refine LeO.ite ?_ ?_
      | refine LeO.bind ?_ (fun _ => ?_)
    · intro y0 y1 y2 y3
      unfold crossroadlaw06_PathPatterns.j1
      repeat' first
      | (with_reducible exact ih0 _ _ _ _)
      | (with_reducible exact ih1 _ _ _ _)
      | (with_reducible exact ih2 _ _ _ _ _ _ _ _)
      | (with_reducible exact ih3 _ _ _ _ _ _ _ _ _ _ _)
      | (with_reducible exact ih4 _ _ _ _)
      | (with_reducible exact ih5 _ _ _ _ _)
      | (with_reducible exact ascii_Token.mono _ _)
      | (with_reducible exact ascii_Words.mono _ _ _)
      | (with_reducible exact crossroadlaw06_fit.mono _)
      | (with_reducible exact path_Pattern.mono _ _)
      | (with_reducible exact LeO.refl _)
      | (with_reducible exact LeO.none _)
      | (with_reducible refine LeO.ite ?_ ?_)
      | (with_reducible refine LeO.bind ?_ (fun _ => ?_))
      | exact ih0 _ _ _ _
      | exact ih1 _ _ _ _
      | exact ih2 _ _ _ _ _ _ _ _
      | exact ih3 _ _ _ _ _ _ _ _ _ _ _
      | exact ih4 _ _ _ _
      | exact ih5 _ _ _ _ _
      | exact ascii_Token.mono _ _
      | exact ascii_Words.mono _ _ _
      | exact crossroadlaw06_fit.mono _
      | exact path_Pattern.mono _ _
      | exact LeO.none _
      | refine LeO.ite ?_ ?_
      | refine LeO.bind ?_ (fun _ => ?_)
    · intro y0 y1 y2 y3 y4 y5 y6 y7
      unfold crossroadlaw06_PathPatterns.l0
      repeat' first
      | (with_reducible exact ih0 _ _ _ _)
      | (with_reducible exact ih1 _ _ _ _)
      | (with_reducible exact ih2 _ _ _ _ _ _ _ _)
      | (with_reducible exact ih3 _ _ _ _ _ _ _ _ _ _ _)
      | (with_reducible exact ih4 _ _ _ _)
      | (with_reducible exact ih5 _ _ _ _ _)
      | (with_reducible exact ascii_Token.mono _ _)
      | (with_reducible exact ascii_Words.mono _ _ _)
      | (with_reducible exact crossroadlaw06_fit.mono _)
      | (with_reducible exact path_Pattern.mono _ _)
      | (with_reducible exact LeO.refl _)
      | (with_reducible exact LeO.none _)
      | (with_reducible refine LeO.ite ?_ ?_)
      | (with_reducible refine LeO.bind ?_ (fun _ => ?_))
      | exact ih0 _ _ _ _
      | exact ih1 _ _ _ _
      | exact ih2 _ _ _ _ _ _ _ _
      | exact ih3 _ _ _ _ _ _ _ _ _ _ _
      | exact ih4 _ _ _ _
      | exact ih5 _ _ _ _ _
      | exact ascii_Token.mono _ _
      | exact ascii_Words.mono _ _ _
      | exact crossroadlaw06_fit.mono _
      | exact path_Pattern.mono _ _
      | exact LeO.none _
      | refine LeO.ite ?_ ?_
      | refine LeO.bind ?_ (fun _ => ?_)
    · intro y0 y1 y2 y3 y4 y5 y6 y7 y8 y9 y10
      unfold crossroadlaw06_PathPatterns.j3
      repeat' first
      | (with_reducible exact ih0 _ _ _ _)
      | (with_reducible exact ih1 _ _ _ _)
      | (with_reducible exact ih2 _ _ _ _ _ _ _ _)
      | (with_reducible exact ih3 _ _ _ _ _ _ _ _ _ _ _)
      | (with_reducible exact ih4 _ _ _ _)
      | (with_reducible exact ih5 _ _ _ _ _)
      | (with_reducible exact ascii_Token.mono _ _)
      | (with_reducible exact ascii_Words.mono _ _ _)
      | (with_reducible exact crossroadlaw06_fit.mono _)
      | (with_reducible exact path_Pattern.mono _ _)
      | (with_reducible exact LeO.refl _)
      | (with_reducible exact LeO.none _)
      | (with_reducible refine LeO.ite ?_ ?_)
      | (with_reducible refine LeO.bind ?_ (fun _ => ?_))
      | exact ih0 _ _ _ _
      | exact ih1 _ _ _ _
      | exact ih2 _ _ _ _ _ _ _ _
      | exact ih3 _ _ _ _ _ _ _ _ _ _ _
      | exact ih4 _ _ _ _
      | exact ih5 _ _ _ _ _
      | exact ascii_Token.mono _ _
      | exact ascii_Words.mono _ _ _
      | exact crossroadlaw06_fit.mono _
      | exact path_Pattern.mono _ _
      | exact LeO.none _
      | refine LeO.ite ?_ ?_
      | refine LeO.bind ?_ (fun _ => ?_)
    · intro y0 y1 y2 y3
      unfold crossroadlaw06_PathPatterns.j4
      repeat' first
      | (with_reducible exact ih0 _ _ _ _)
      | (with_reducible exact ih1 _ _ _ _)
      | (with_reducible exact ih2 _ _ _ _ _ _ _ _)
      | (with_reducible exact ih3 _ _ _ _ _ _ _ _ _ _ _)
      | (with_reducible exact ih4 _ _ _ _)
      | (with_reducible exact ih5 _ _ _ _ _)
      | (with_reducible exact ascii_Token.mono _ _)
      | (with_reducible exact ascii_Words.mono _ _ _)
      | (with_reducible exact crossroadlaw06_fit.mono _)
      | (with_reducible exact path_Pattern.mono _ _)
      | (with_reducible exact LeO.refl _)
      | (with_reducible exact LeO.none _)
      | (with_reducible refine LeO.ite ?_ ?_)
      | (with_reducible refine LeO.bind ?_ (fun _ => ?_))
      | exact ih0 _ _ _ _
      | exact ih1 _ _ _ _
      | exact ih2 _ _ _ _ _ _ _ _
      | exact ih3 _ _ _ _ _ _ _ _ _ _ _
      | exact ih4 _ _ _ _
      | exact ih5 _ _ _ _ _
      | exact ascii_Token.mono _ _
      | exact ascii_Words.mono _ _ _
      | exact crossroadlaw06_fit.mono _
      | exact path_Pattern.mono _ _
      | exact LeO.none _
      | refine LeO.ite ?_ ?_
      | refine LeO.bind ?_ (fun _ => ?_)
    · intro y0 y1 y2 y3 y4
      unfold crossroadlaw06_PathPatterns.l1
      repeat' first
      | (with_reducible exact ih0 _ _ _ _)
      | (with_reducible exact ih1 _ _ _ _)
      | (with_reducible exact ih2 _ _ _ _ _ _ _ _)
      | (with_reducible exact ih3 _ _ _ _ _ _ _ _ _ _ _)
      | (with_reducible exact ih4 _ _ _ _)
      | (with_reducible exact ih5 _ _ _ _ _)
      | (with_reducible exact ascii_Token.mono _ _)
      | (with_reducible exact ascii_Words.mono _ _ _)
      | (with_reducible exact crossroadlaw06_fit.mono _)
      | (with_reducible exact path_Pattern.mono _ _)
      | (with_reducible exact LeO.refl _)
      | (with_reducible exact LeO.none _)
      | (with_reducible refine LeO.ite ?_ ?_)
      | (with_reducible refine LeO.bind ?_ (fun _ => ?_))
      | exact ih0 _ _ _ _
      | exact ih1 _ _ _ _
      | exact ih2 _ _ _ _ _ _ _ _
      | exact ih3 _ _ _ _ _ _ _ _ _ _ _
      | exact ih4 _ _ _ _
      | exact ih5 _ _ _ _ _
      | exact ascii_Token.mono _ _
      | exact ascii_Words.mono _ _ _
      | exact crossroadlaw06_fit.mono _
      | exact path_Pattern.mono _ _
      | exact LeO.none _
      | refine LeO.ite ?_ ?_
      | refine LeO.bind ?_ (fun _ => ?_)
theorem crossroadlaw06_PathPatterns.mono : ∀ a0 k, LeO (crossroadlaw06_PathPatterns.f k a0) (crossroadlaw06_PathPatterns.f (k + 1) a0) := by
  intro a0 k
  obtain ⟨ih0, ih1, ih2, ih3, ih4, ih5⟩ := crossroadlaw06_PathPatterns.mono_l k
  unfold crossroadlaw06_PathPatterns.f
  repeat' first
      | (with_reducible exact ih0 _ _ _ _)
      | (with_reducible exact ih1 _ _ _ _)
      | (with_reducible exact ih2 _ _ _ _ _ _ _ _)
      | (with_reducible exact ih3 _ _ _ _ _ _ _ _ _ _ _)
      | (with_reducible exact ih4 _ _ _ _)
      | (with_reducible exact ih5 _ _ _ _ _)
      | (with_reducible exact ascii_Token.mono _ _)
      | (with_reducible exact ascii_Words.mono _ _ _)
      | (with_reducible exact crossroadlaw06_fit.mono _)
      | (with_reducible exact path_Pattern.mono _ _)
      | (with_reducible exact LeO.refl _)
      | (with_reducible exact LeO.none _)
      | (with_reducible refine LeO.ite ?_ ?_)
      | (with_reducible refine LeO.bind ?_ (fun _ => ?_))
      | exact ih0 _ _ _ _
      | exact ih1 _ _ _ _
      | exact ih2 _ _ _ _ _ _ _ _
      | exact ih3 _ _ _ _ _ _ _ _ _ _ _
      | exact ih4 _ _ _ _
      | exact ih5 _ _ _ _ _
      | exact ascii_Token.mono _ _
      | exact ascii_Words.mono _ _ _
      | exact crossroadlaw06_fit.mono _
      | exact path_Pattern.mono _ _
      | exact LeO.none _
      | refine LeO.ite ?_ ?_
      | refine LeO.bind ?_ (fun _ => ?_)
set_option maxHeartbeats 8000000 in
set_option maxRecDepth 100000 in
theorem crossroadlaw06_PathPatterns.calls (k : Nat) (a0 : ByteArray) (r : Bool) (w : World) (h : crossroadlaw06_PathPatterns.f k a0 = some r) :
    Calls Try.prog 4 #[.string a0] w fun e w' => e = .returned (.bool r) ∧ Below w.heap.size w w' := by
  have HB := Aside0.mk (Below.refl w.heap.size w)
  have H : ((crossroadlaw06_fit.f k).bind fun t167 => (if t167 = true then ((crossroadlaw06_light.f a0).bind fun t168 => (if t168 = true then ((path_Pattern.f k a0).bind fun bt169 => (if a0.toList = ([47] : List UInt8) then (if bt169.2 = true then (some ((bt169.1.length : Int) == 0)) else (some false)) else (if (a0.size : Int) > 1 then (if 0 < (a0.size : Int) then (crossroadlaw06_PathPatterns.j0 k a0 bt169.1 bt169.2 ((bt a0 0) == 47)) else (none)) else (crossroadlaw06_PathPatterns.j0 k a0 bt169.1 bt169.2 false)))) else (some true))) else (some false))) = some r := h
  clear h
  replace H := Option.bind_eq_some_iff.mp H
  obtain ⟨t167, A20, H⟩ := H
  replace H : (if t167 = true then ((crossroadlaw06_light.f a0).bind fun t168 => (if t168 = true then ((path_Pattern.f k a0).bind fun bt169 => (if a0.toList = ([47] : List UInt8) then (if bt169.2 = true then (some ((bt169.1.length : Int) == 0)) else (some false)) else (if (a0.size : Int) > 1 then (if 0 < (a0.size : Int) then (crossroadlaw06_PathPatterns.j0 k a0 bt169.1 bt169.2 ((bt a0 0) == 47)) else (none)) else (crossroadlaw06_PathPatterns.j0 k a0 bt169.1 bt169.2 false)))) else (some true))) else (some false)) = some r := H
  have A2 := Aside0.mk A20
  clear A20
  by_cases c3 : t167 = true
  · subst c3
    have H1 : ((crossroadlaw06_light.f a0).bind fun t168 => (if t168 = true then ((path_Pattern.f k a0).bind fun bt169 => (if a0.toList = ([47] : List UInt8) then (if bt169.2 = true then (some ((bt169.1.length : Int) == 0)) else (some false)) else (if (a0.size : Int) > 1 then (if 0 < (a0.size : Int) then (crossroadlaw06_PathPatterns.j0 k a0 bt169.1 bt169.2 ((bt a0 0) == 47)) else (none)) else (crossroadlaw06_PathPatterns.j0 k a0 bt169.1 bt169.2 false)))) else (some true))) = some r := by rw [if_pos rfl] at H; exact H
    clear H
    have H := H1
    clear H1
    replace H := Option.bind_eq_some_iff.mp H
    obtain ⟨t168, A40, H⟩ := H
    replace H : (if t168 = true then ((path_Pattern.f k a0).bind fun bt169 => (if a0.toList = ([47] : List UInt8) then (if bt169.2 = true then (some ((bt169.1.length : Int) == 0)) else (some false)) else (if (a0.size : Int) > 1 then (if 0 < (a0.size : Int) then (crossroadlaw06_PathPatterns.j0 k a0 bt169.1 bt169.2 ((bt a0 0) == 47)) else (none)) else (crossroadlaw06_PathPatterns.j0 k a0 bt169.1 bt169.2 false)))) else (some true)) = some r := H
    have A4 := Aside0.mk A40
    clear A40
    by_cases c5 : t168 = true
    · subst c5
      have H1 : ((path_Pattern.f k a0).bind fun bt169 => (if a0.toList = ([47] : List UInt8) then (if bt169.2 = true then (some ((bt169.1.length : Int) == 0)) else (some false)) else (if (a0.size : Int) > 1 then (if 0 < (a0.size : Int) then (crossroadlaw06_PathPatterns.j0 k a0 bt169.1 bt169.2 ((bt a0 0) == 47)) else (none)) else (crossroadlaw06_PathPatterns.j0 k a0 bt169.1 bt169.2 false)))) = some r := by rw [if_pos rfl] at H; exact H
      clear H
      have H := H1
      clear H1
      replace H := Option.bind_eq_some_iff.mp H
      obtain ⟨⟨t169, t170⟩, A60, H⟩ := H
      replace H : (if a0.toList = ([47] : List UInt8) then (if t170 = true then (some ((t169.length : Int) == 0)) else (some false)) else (if (a0.size : Int) > 1 then (if 0 < (a0.size : Int) then (crossroadlaw06_PathPatterns.j0 k a0 t169 t170 ((bt a0 0) == 47)) else (none)) else (crossroadlaw06_PathPatterns.j0 k a0 t169 t170 false))) = some r := H
      have A6 := Aside0.mk A60
      clear A60
      by_cases c7 : a0.toList = ([47] : List UInt8)
      · rw [if_pos c7] at H
        have c7b0 : (a0.toList == ([47] : List UInt8)) = true := beq_iff_eq.mpr c7
        have c7b1 : (a0.toList != ([47] : List UInt8)) = false := bne_eq_false_iff_eq.mpr c7
        clear c7
        by_cases c8 : t170 = true
        · subst c8
          have H1 : (some ((t169.length : Int) == 0)) = some r := by rw [if_pos rfl] at H; exact H
          clear H
          have H := H1
          clear H1
          obtain rfl := Option.some.inj H
          go_enter Try.func4, Try.ntmps4
          go_wp2_with (first | ((with_reducible refine gate_dst (N := 41) rfl ?_); refine wpList_makeMap_map (base := w.heap.size) K30 E30 rfl 30 rfl (below_size (by repeat (first | (with_reducible first | exact HB.out | apply below_alloc | apply pw_below_drewN | apply below_drew1) | exact HB.out))) ?_; intro VM wM_ hm_ hb_; have HM := Aside0.mk hm_; have nB_ := Aside0.mk (below_step (by repeat (first | (with_reducible first | exact HB.out | apply below_alloc | apply pw_below_drewN | apply below_drew1) | exact HB.out)) hb_); clear HB; have HB := nB_; clear nB_ hm_; (try (have nO_ := Aside0.mk (Kd.R_below (by (with_reducible repeat (first | apply Kd.R_alloc | apply Kd.R_drewN | apply Kd.R_drew)); exact HO172.out) hb_); clear HO172; have HO172 := nO_; clear nO_)); clear hb_) | (go_at_call 9; (with_reducible refine (crossroadlaw06_fit.calls k  true _ A2.out).mono ?_); rintro e w9 ⟨rfl, hb⟩; have n0_ := Aside0.mk (below_step (by repeat (first | (with_reducible first | exact HB.out | apply below_alloc | apply pw_below_drewN | apply below_drew1) | exact HB.out)) hb); clear HB; have HB := n0_; clear n0_; (try clear hb); (try clear hb2); (try clear hk); (try clear hi)) | (go_at_call 10; (with_reducible refine (crossroadlaw06_light.calls a0 true _ A4.out).mono ?_); rintro e w' ⟨rfl, ⟨nd, rfl⟩⟩; (try first | exact ⟨rfl, _, World.drewN_drewN _ _ _⟩ | exact ⟨rfl, _, Eq.trans (World.drewN_drewN _ _ _) (congrArg (World.drewN _) (Nat.add_assoc _ _ _))⟩)) | (go_at_call 13; (with_reducible refine (path_Pattern.calls k a0 t169 true _ A6.out).mono ?_); rintro e w10 ⟨v171, rfl, ho0, hb⟩; have n0_ := Aside0.mk (Kd.R_lower ho0 (below_size (by repeat (first | (with_reducible first | exact HB.out | apply below_alloc | apply pw_below_drewN | apply below_drew1) | exact HB.out)))); have n1_ := Aside0.mk (below_step (by repeat (first | (with_reducible first | exact HB.out | apply below_alloc | apply pw_below_drewN | apply below_drew1) | exact HB.out)) hb); clear HB; have HO172 := n0_; have HB := n1_; clear n0_ n1_; (try clear hb); (try clear hb2); (try clear hk); (try clear hi); (try clear ho0); obtain ⟨Ao11, co11, eo11⟩ := Kd.R_slice HO172.out; subst eo11))
          repeat (go_quiet (first | (go_at_call 9; (with_reducible refine (crossroadlaw06_fit.calls k  true _ A2.out).mono ?_); rintro e w9 ⟨rfl, hb⟩; have n0_ := Aside0.mk (below_step (by repeat (first | (with_reducible first | exact HB.out | apply below_alloc | apply pw_below_drewN | apply below_drew1) | exact HB.out)) hb); clear HB; have HB := n0_; clear n0_; (try clear hb); (try clear hb2); (try clear hk); (try clear hi)) | (go_at_call 10; (with_reducible refine (crossroadlaw06_light.calls a0 true _ A4.out).mono ?_); rintro e w' ⟨rfl, ⟨nd, rfl⟩⟩; (try first | exact ⟨rfl, _, World.drewN_drewN _ _ _⟩ | exact ⟨rfl, _, Eq.trans (World.drewN_drewN _ _ _) (congrArg (World.drewN _) (Nat.add_assoc _ _ _))⟩)) | (go_at_call 13; (with_reducible refine (path_Pattern.calls k a0 t169 true _ A6.out).mono ?_); rintro e w10 ⟨v171, rfl, ho0, hb⟩; have n0_ := Aside0.mk (Kd.R_lower ho0 (below_size (by repeat (first | (with_reducible first | exact HB.out | apply below_alloc | apply pw_below_drewN | apply below_drew1) | exact HB.out)))); have n1_ := Aside0.mk (below_step (by repeat (first | (with_reducible first | exact HB.out | apply below_alloc | apply pw_below_drewN | apply below_drew1) | exact HB.out)) hb); clear HB; have HO172 := n0_; have HB := n1_; clear n0_ n1_; (try clear hb); (try clear hb2); (try clear hk); (try clear hi); (try clear ho0); obtain ⟨Ao11, co11, eo11⟩ := Kd.R_slice HO172.out; subst eo11)); try go_wp2_with (first | ((with_reducible refine gate_dst (N := 41) rfl ?_); refine wpList_makeMap_map (base := w.heap.size) K30 E30 rfl 30 rfl (below_size (by repeat (first | (with_reducible first | exact HB.out | apply below_alloc | apply pw_below_drewN | apply below_drew1) | exact HB.out))) ?_; intro VM wM_ hm_ hb_; have HM := Aside0.mk hm_; have nB_ := Aside0.mk (below_step (by repeat (first | (with_reducible first | exact HB.out | apply below_alloc | apply pw_below_drewN | apply below_drew1) | exact HB.out)) hb_); clear HB; have HB := nB_; clear nB_ hm_; (try (have nO_ := Aside0.mk (Kd.R_below (by (with_reducible repeat (first | apply Kd.R_alloc | apply Kd.R_drewN | apply Kd.R_drew)); exact HO172.out) hb_); clear HO172; have HO172 := nO_; clear nO_)); clear hb_) | (go_at_call 9; (with_reducible refine (crossroadlaw06_fit.calls k  true _ A2.out).mono ?_); rintro e w9 ⟨rfl, hb⟩; have n0_ := Aside0.mk (below_step (by repeat (first | (with_reducible first | exact HB.out | apply below_alloc | apply pw_below_drewN | apply below_drew1) | exact HB.out)) hb); clear HB; have HB := n0_; clear n0_; (try clear hb); (try clear hb2); (try clear hk); (try clear hi)) | (go_at_call 10; (with_reducible refine (crossroadlaw06_light.calls a0 true _ A4.out).mono ?_); rintro e w' ⟨rfl, ⟨nd, rfl⟩⟩; (try first | exact ⟨rfl, _, World.drewN_drewN _ _ _⟩ | exact ⟨rfl, _, Eq.trans (World.drewN_drewN _ _ _) (congrArg (World.drewN _) (Nat.add_assoc _ _ _))⟩)) | (go_at_call 13; (with_reducible refine (path_Pattern.calls k a0 t169 true _ A6.out).mono ?_); rintro e w10 ⟨v171, rfl, ho0, hb⟩; have n0_ := Aside0.mk (Kd.R_lower ho0 (below_size (by repeat (first | (with_reducible first | exact HB.out | apply below_alloc | apply pw_below_drewN | apply below_drew1) | exact HB.out)))); have n1_ := Aside0.mk (below_step (by repeat (first | (with_reducible first | exact HB.out | apply below_alloc | apply pw_below_drewN | apply below_drew1) | exact HB.out)) hb); clear HB; have HO172 := n0_; have HB := n1_; clear n0_ n1_; (try clear hb); (try clear hb2); (try clear hk); (try clear hi); (try clear ho0); obtain ⟨Ao11, co11, eo11⟩ := Kd.R_slice HO172.out; subst eo11)))
          go_ret
          exact ⟨by first | rfl | (simp [errW_none, errW_some] <;> rfl) | (simp [*, errW_none, errW_some] <;> rfl), by repeat (first | (with_reducible first | exact HB.out | apply below_alloc | apply pw_below_drewN | apply below_drew1) | exact HB.out)⟩
        · replace c8 := Bool.eq_false_iff.mpr c8
          subst c8
          have H1 : (some false) = some r := by rw [if_neg (show ¬ (false = true) by decide)] at H; exact H
          clear H
          have H := H1
          clear H1
          obtain rfl := Option.some.inj H
          go_enter Try.func4, Try.ntmps4
          go_wp2_with (first | ((with_reducible refine gate_dst (N := 41) rfl ?_); refine wpList_makeMap_map (base := w.heap.size) K30 E30 rfl 30 rfl (below_size (by repeat (first | (with_reducible first | exact HB.out | apply below_alloc | apply pw_below_drewN | apply below_drew1) | exact HB.out))) ?_; intro VM wM_ hm_ hb_; have HM := Aside0.mk hm_; have nB_ := Aside0.mk (below_step (by repeat (first | (with_reducible first | exact HB.out | apply below_alloc | apply pw_below_drewN | apply below_drew1) | exact HB.out)) hb_); clear HB; have HB := nB_; clear nB_ hm_; (try (have nO_ := Aside0.mk (Kd.R_below (by (with_reducible repeat (first | apply Kd.R_alloc | apply Kd.R_drewN | apply Kd.R_drew)); exact HO172.out) hb_); clear HO172; have HO172 := nO_; clear nO_)); clear hb_) | (go_at_call 9; (with_reducible refine (crossroadlaw06_fit.calls k  true _ A2.out).mono ?_); rintro e w12 ⟨rfl, hb⟩; have n0_ := Aside0.mk (below_step (by repeat (first | (with_reducible first | exact HB.out | apply below_alloc | apply pw_below_drewN | apply below_drew1) | exact HB.out)) hb); clear HB; have HB := n0_; clear n0_; (try clear hb); (try clear hb2); (try clear hk); (try clear hi)) | (go_at_call 10; (with_reducible refine (crossroadlaw06_light.calls a0 true _ A4.out).mono ?_); rintro e w' ⟨rfl, ⟨nd, rfl⟩⟩; (try first | exact ⟨rfl, _, World.drewN_drewN _ _ _⟩ | exact ⟨rfl, _, Eq.trans (World.drewN_drewN _ _ _) (congrArg (World.drewN _) (Nat.add_assoc _ _ _))⟩)) | (go_at_call 13; (with_reducible refine (path_Pattern.calls k a0 t169 false _ A6.out).mono ?_); rintro e w13 ⟨v171, rfl, ho0, hb⟩; have n0_ := Aside0.mk (Kd.R_lower ho0 (below_size (by repeat (first | (with_reducible first | exact HB.out | apply below_alloc | apply pw_below_drewN | apply below_drew1) | exact HB.out)))); have n1_ := Aside0.mk (below_step (by repeat (first | (with_reducible first | exact HB.out | apply below_alloc | apply pw_below_drewN | apply below_drew1) | exact HB.out)) hb); clear HB; have HO172 := n0_; have HB := n1_; clear n0_ n1_; (try clear hb); (try clear hb2); (try clear hk); (try clear hi); (try clear ho0)))
          repeat (go_quiet (first | (go_at_call 9; (with_reducible refine (crossroadlaw06_fit.calls k  true _ A2.out).mono ?_); rintro e w12 ⟨rfl, hb⟩; have n0_ := Aside0.mk (below_step (by repeat (first | (with_reducible first | exact HB.out | apply below_alloc | apply pw_below_drewN | apply below_drew1) | exact HB.out)) hb); clear HB; have HB := n0_; clear n0_; (try clear hb); (try clear hb2); (try clear hk); (try clear hi)) | (go_at_call 10; (with_reducible refine (crossroadlaw06_light.calls a0 true _ A4.out).mono ?_); rintro e w' ⟨rfl, ⟨nd, rfl⟩⟩; (try first | exact ⟨rfl, _, World.drewN_drewN _ _ _⟩ | exact ⟨rfl, _, Eq.trans (World.drewN_drewN _ _ _) (congrArg (World.drewN _) (Nat.add_assoc _ _ _))⟩)) | (go_at_call 13; (with_reducible refine (path_Pattern.calls k a0 t169 false _ A6.out).mono ?_); rintro e w13 ⟨v171, rfl, ho0, hb⟩; have n0_ := Aside0.mk (Kd.R_lower ho0 (below_size (by repeat (first | (with_reducible first | exact HB.out | apply below_alloc | apply pw_below_drewN | apply below_drew1) | exact HB.out)))); have n1_ := Aside0.mk (below_step (by repeat (first | (with_reducible first | exact HB.out | apply below_alloc | apply pw_below_drewN | apply below_drew1) | exact HB.out)) hb); clear HB; have HO172 := n0_; have HB := n1_; clear n0_ n1_; (try clear hb); (try clear hb2); (try clear hk); (try clear hi); (try clear ho0))); try go_wp2_with (first | ((with_reducible refine gate_dst (N := 41) rfl ?_); refine wpList_makeMap_map (base := w.heap.size) K30 E30 rfl 30 rfl (below_size (by repeat (first | (with_reducible first | exact HB.out | apply below_alloc | apply pw_below_drewN | apply below_drew1) | exact HB.out))) ?_; intro VM wM_ hm_ hb_; have HM := Aside0.mk hm_; have nB_ := Aside0.mk (below_step (by repeat (first | (with_reducible first | exact HB.out | apply below_alloc | apply pw_below_drewN | apply below_drew1) | exact HB.out)) hb_); clear HB; have HB := nB_; clear nB_ hm_; (try (have nO_ := Aside0.mk (Kd.R_below (by (with_reducible repeat (first | apply Kd.R_alloc | apply Kd.R_drewN | apply Kd.R_drew)); exact HO172.out) hb_); clear HO172; have HO172 := nO_; clear nO_)); clear hb_) | (go_at_call 9; (with_reducible refine (crossroadlaw06_fit.calls k  true _ A2.out).mono ?_); rintro e w12 ⟨rfl, hb⟩; have n0_ := Aside0.mk (below_step (by repeat (first | (with_reducible first | exact HB.out | apply below_alloc | apply pw_below_drewN | apply below_drew1) | exact HB.out)) hb); clear HB; have HB := n0_; clear n0_; (try clear hb); (try clear hb2); (try clear hk); (try clear hi)) | (go_at_call 10; (with_reducible refine (crossroadlaw06_light.calls a0 true _ A4.out).mono ?_); rintro e w' ⟨rfl, ⟨nd, rfl⟩⟩; (try first | exact ⟨rfl, _, World.drewN_drewN _ _ _⟩ | exact ⟨rfl, _, Eq.trans (World.drewN_drewN _ _ _) (congrArg (World.drewN _) (Nat.add_assoc _ _ _))⟩)) | (go_at_call 13; (with_reducible refine (path_Pattern.calls k a0 t169 false _ A6.out).mono ?_); rintro e w13 ⟨v171, rfl, ho0, hb⟩; have n0_ := Aside0.mk (Kd.R_lower ho0 (below_size (by repeat (first | (with_reducible first | exact HB.out | apply below_alloc | apply pw_below_drewN | apply below_drew1) | exact HB.out)))); have n1_ := Aside0.mk (below_step (by repeat (first | (with_reducible first | exact HB.out | apply below_alloc | apply pw_below_drewN | apply below_drew1) | exact HB.out)) hb); clear HB; have HO172 := n0_; have HB := n1_; clear n0_ n1_; (try clear hb); (try clear hb2); (try clear hk); (try clear hi); (try clear ho0))))
          go_ret
          exact ⟨by first | rfl | (simp [errW_none, errW_some] <;> rfl) | (simp [*, errW_none, errW_some] <;> rfl), by repeat (first | (with_reducible first | exact HB.out | apply below_alloc | apply pw_below_drewN | apply below_drew1) | exact HB.out)⟩
      · rw [if_neg c7] at H
        have c7b0 : (a0.toList == ([47] : List UInt8)) = false := beq_eq_false_iff_ne.mpr c7
        have c7b1 : (a0.toList != ([47] : List UInt8)) = true := bne_iff_ne.mpr c7
        have HC14 := Aside0.mk H
        clear H
        go_enter Try.func4, Try.ntmps4
        go_upto_region 8 with (first | (go_at_call 9; (with_reducible refine (crossroadlaw06_fit.calls k  true _ A2.out).mono ?_); rintro e w15 ⟨rfl, hb⟩; have n0_ := Aside0.mk (below_step (by repeat (first | (with_reducible first | exact HB.out | apply below_alloc | apply pw_below_drewN | apply below_drew1) | exact HB.out)) hb); clear HB; have HB := n0_; clear n0_; (try clear hb); (try clear hb2); (try clear hk); (try clear hi)) | (go_at_call 10; (with_reducible refine (crossroadlaw06_light.calls a0 true _ A4.out).mono ?_); rintro e w' ⟨rfl, ⟨nd, rfl⟩⟩; (try first | exact ⟨rfl, _, World.drewN_drewN _ _ _⟩ | exact ⟨rfl, _, Eq.trans (World.drewN_drewN _ _ _) (congrArg (World.drewN _) (Nat.add_assoc _ _ _))⟩)) | (go_at_call 13; (with_reducible refine (path_Pattern.calls k a0 t169 t170 _ A6.out).mono ?_); rintro e w16 ⟨v171, rfl, ho0, hb⟩; have n0_ := Aside0.mk (Kd.R_lower ho0 (below_size (by repeat (first | (with_reducible first | exact HB.out | apply below_alloc | apply pw_below_drewN | apply below_drew1) | exact HB.out)))); have n1_ := Aside0.mk (below_step (by repeat (first | (with_reducible first | exact HB.out | apply below_alloc | apply pw_below_drewN | apply below_drew1) | exact HB.out)) hb); clear HB; have HO172 := n0_; have HB := n1_; clear n0_ n1_; (try clear hb); (try clear hb2); (try clear hk); (try clear hi); (try clear ho0)))
        repeat (go_quiet (first | (go_at_call 9; (with_reducible refine (crossroadlaw06_fit.calls k  true _ A2.out).mono ?_); rintro e w15 ⟨rfl, hb⟩; have n0_ := Aside0.mk (below_step (by repeat (first | (with_reducible first | exact HB.out | apply below_alloc | apply pw_below_drewN | apply below_drew1) | exact HB.out)) hb); clear HB; have HB := n0_; clear n0_; (try clear hb); (try clear hb2); (try clear hk); (try clear hi)) | (go_at_call 10; (with_reducible refine (crossroadlaw06_light.calls a0 true _ A4.out).mono ?_); rintro e w' ⟨rfl, ⟨nd, rfl⟩⟩; (try first | exact ⟨rfl, _, World.drewN_drewN _ _ _⟩ | exact ⟨rfl, _, Eq.trans (World.drewN_drewN _ _ _) (congrArg (World.drewN _) (Nat.add_assoc _ _ _))⟩)) | (go_at_call 13; (with_reducible refine (path_Pattern.calls k a0 t169 t170 _ A6.out).mono ?_); rintro e w16 ⟨v171, rfl, ho0, hb⟩; have n0_ := Aside0.mk (Kd.R_lower ho0 (below_size (by repeat (first | (with_reducible first | exact HB.out | apply below_alloc | apply pw_below_drewN | apply below_drew1) | exact HB.out)))); have n1_ := Aside0.mk (below_step (by repeat (first | (with_reducible first | exact HB.out | apply below_alloc | apply pw_below_drewN | apply below_drew1) | exact HB.out)) hb); clear HB; have HO172 := n0_; have HB := n1_; clear n0_ n1_; (try clear hb); (try clear hb2); (try clear hk); (try clear hi); (try clear ho0))); go_upto_region 8 with (first | (go_at_call 9; (with_reducible refine (crossroadlaw06_fit.calls k  true _ A2.out).mono ?_); rintro e w15 ⟨rfl, hb⟩; have n0_ := Aside0.mk (below_step (by repeat (first | (with_reducible first | exact HB.out | apply below_alloc | apply pw_below_drewN | apply below_drew1) | exact HB.out)) hb); clear HB; have HB := n0_; clear n0_; (try clear hb); (try clear hb2); (try clear hk); (try clear hi)) | (go_at_call 10; (with_reducible refine (crossroadlaw06_light.calls a0 true _ A4.out).mono ?_); rintro e w' ⟨rfl, ⟨nd, rfl⟩⟩; (try first | exact ⟨rfl, _, World.drewN_drewN _ _ _⟩ | exact ⟨rfl, _, Eq.trans (World.drewN_drewN _ _ _) (congrArg (World.drewN _) (Nat.add_assoc _ _ _))⟩)) | (go_at_call 13; (with_reducible refine (path_Pattern.calls k a0 t169 t170 _ A6.out).mono ?_); rintro e w16 ⟨v171, rfl, ho0, hb⟩; have n0_ := Aside0.mk (Kd.R_lower ho0 (below_size (by repeat (first | (with_reducible first | exact HB.out | apply below_alloc | apply pw_below_drewN | apply below_drew1) | exact HB.out)))); have n1_ := Aside0.mk (below_step (by repeat (first | (with_reducible first | exact HB.out | apply below_alloc | apply pw_below_drewN | apply below_drew1) | exact HB.out)) hb); clear HB; have HO172 := n0_; have HB := n1_; clear n0_ n1_; (try clear hb); (try clear hb2); (try clear hk); (try clear hi); (try clear ho0))))
        (try simp only [Act.put, List.setIfInBounds_toArray, List.set_cons_zero, List.set_cons_succ])
        go_cut [5] (fun v5 wc => ∃ (kq : Nat) (x5_13 : Bool), v5 = .bool x5_13 ∧ Aside0 (crossroadlaw06_PathPatterns.j0 kq a0 t169 t170 x5_13 = some r) ∧ Aside0 (kq ≤ k) ∧ Aside0 (Kd.R Kd.string 9 wc w.heap.size (fun _ => True) v171 t169) ∧ Aside0 (Below w.heap.size w wc))
        case first =>
          have H := HC14.out
          clear HC14
          by_cases c17 : (a0.size : Int) > 1
          · rw [if_pos c17] at H
            have c17b0 : decide (1 < (a0.size : Int)) = true := decide_eq_true c17
            have c17b1 : decide (1 < a0.size) = true := decide_eq_true (by omega)
            clear c17
            (first | rw [c17b0] | (simp only [i64_w, i32_w]; rw [c17b0]) | skip)
            by_cases c18 : 0 < (a0.size : Int)
            · rw [if_pos c18] at H
              have c18b0 : decide (0 < (a0.size : Int)) = true := decide_eq_true c18
              have c18b1 : decide (0 < a0.size) = true := decide_eq_true (by omega)
              clear c18
              have H' := Aside0.mk H
              clear H
              have p19 : 0 ≤ (0 : Int) := (by omega)
              have q19 : 0 < a0.size := (by have : (0 : Int) < (a0.size : Int) := of_decide_eq_true (by first | (with_reducible assumption) | assumption); omega)
              have hx19 : ∀ h : 0 < a0.size, ((a0[0]'h).toNat : Int) = bt a0 0 := bt_at a0 0
              clear p19
              have qi19 : (0 < (a0.size : Int)) = True := eq_true (of_decide_eq_true (by first | (with_reducible assumption) | assumption))
              replace q19 := eq_true q19
              go_wp2_with (first | ((with_reducible refine gate_dst (N := 41) rfl ?_); refine wpList_makeMap_map (base := w.heap.size) K30 E30 rfl 30 rfl (below_size (by repeat (first | (with_reducible first | exact HB.out | apply below_alloc | apply pw_below_drewN | apply below_drew1) | exact HB.out))) ?_; intro VM wM_ hm_ hb_; have HM := Aside0.mk hm_; have nB_ := Aside0.mk (below_step (by repeat (first | (with_reducible first | exact HB.out | apply below_alloc | apply pw_below_drewN | apply below_drew1) | exact HB.out)) hb_); clear HB; have HB := nB_; clear nB_ hm_; (try (have nO_ := Aside0.mk (Kd.R_below (by (with_reducible repeat (first | apply Kd.R_alloc | apply Kd.R_drewN | apply Kd.R_drew)); exact HO172.out) hb_); clear HO172; have HO172 := nO_; clear nO_)); clear hb_))
              repeat (go_quiet (fail); try go_wp2)
              go_meet
              case rel => exact ⟨_, (((bt a0 0) == 47)), (by first | rfl | (simp; done) | (simp [*]; done)), H', ⟨by first | omega | exact Nat.le_refl _⟩, ⟨by (with_reducible repeat (first | apply Kd.R_alloc | apply Kd.R_drewN | apply Kd.R_drew)); exact HO172.out⟩, ⟨by repeat (first | (with_reducible first | exact HB.out | apply below_alloc | apply pw_below_drewN | apply below_drew1) | exact HB.out)⟩⟩
            · rw [if_neg c18] at H
              exact absurd H (by simp)
          · rw [if_neg c17] at H
            have c17b0 : decide (1 < (a0.size : Int)) = false := decide_eq_false c17
            have c17b1 : decide (1 < a0.size) = false := decide_eq_false (by omega)
            clear c17
            (first | rw [c17b0] | (simp only [i64_w, i32_w]; rw [c17b0]) | skip)
            have H' := Aside0.mk H
            clear H
            go_wp2_with (first | ((with_reducible refine gate_dst (N := 41) rfl ?_); refine wpList_makeMap_map (base := w.heap.size) K30 E30 rfl 30 rfl (below_size (by repeat (first | (with_reducible first | exact HB.out | apply below_alloc | apply pw_below_drewN | apply below_drew1) | exact HB.out))) ?_; intro VM wM_ hm_ hb_; have HM := Aside0.mk hm_; have nB_ := Aside0.mk (below_step (by repeat (first | (with_reducible first | exact HB.out | apply below_alloc | apply pw_below_drewN | apply below_drew1) | exact HB.out)) hb_); clear HB; have HB := nB_; clear nB_ hm_; (try (have nO_ := Aside0.mk (Kd.R_below (by (with_reducible repeat (first | apply Kd.R_alloc | apply Kd.R_drewN | apply Kd.R_drew)); exact HO172.out) hb_); clear HO172; have HO172 := nO_; clear nO_)); clear hb_))
            repeat (go_quiet (fail); try go_wp2)
            go_meet
            case rel => exact ⟨_, (false), (by first | rfl | (simp; done) | (simp [*]; done)), H', ⟨by first | omega | exact Nat.le_refl _⟩, ⟨by (with_reducible repeat (first | apply Kd.R_alloc | apply Kd.R_drewN | apply Kd.R_drew)); exact HO172.out⟩, ⟨by repeat (first | (with_reducible first | exact HB.out | apply below_alloc | apply pw_below_drewN | apply below_drew1) | exact HB.out)⟩⟩
        case rest =>
          clear HC14
          try clear c1
          try clear p1
          try clear q1
          try clear hx1
          try clear qi1
          try clear p2
          try clear c3
          try clear c4
          try clear c5
          try clear c7
          try clear c7b0
          try clear c7b1
          try clear c8
          try clear c17
          try clear c17b0
          try clear c17b1
          try clear c18
          try clear c18b0
          try clear c18b1
          try clear p19
          try clear q19
          try clear hx19
          try clear qi19
          try clear p19
          try clear q19
          obtain ⟨kq, x5_13, rfl, HA, HJ13, HO_3, HB⟩ := hcut
          cases kq with
          | zero => exact absurd HA.out (by simp [crossroadlaw06_PathPatterns.j0])
          | succ kj13 =>
            have H := HA.out
            clear HA
            simp only [crossroadlaw06_PathPatterns.j0] at H
            have HC20 := Aside0.mk H
            clear H
            go_upto_if 37 with (fail)
            repeat (go_quiet (fail); go_upto_if 37 with (fail))
            go_cut [6] (fun v6 wc => ∃ (kq : Nat) (x6_19 : List ByteArray), Aside0 (crossroadlaw06_PathPatterns.j1 kq t169 t170 x5_13 x6_19 = some r) ∧ Aside0 (kq ≤ kj13) ∧ Aside0 (Kd.R Kd.string 9 wc w.heap.size (fun k_ => some k_ ≠ (v6 : Value).ownBlock) v171 t169) ∧ Aside0 (Kd.R Kd.string 9 wc w.heap.size (fun k_ => some k_ ≠ (v171 : Value).ownBlock) v6 x6_19) ∧ Aside0 (Below w.heap.size w wc))
            case first =>
              have H := HC20.out
              clear HC20
              by_cases c21 : x5_13 = true
              · subst c21
                have H1 : (if 1 ≤ (a0.size : Int) then ((ascii_Words.f kj13 (a0.extract 1 a0.size) 47).bind fun t173 => (crossroadlaw06_PathPatterns.j1 kj13 t169 t170 true t173)) else (none)) = some r := by rw [if_pos rfl] at H; exact H
                clear H
                have H := H1
                clear H1
                by_cases c22 : 1 ≤ (a0.size : Int)
                · rw [if_pos c22] at H
                  have c22b0 := eq_true c22
                  have c22b1 : decide (1 ≤ (a0.size : Int)) = true := decide_eq_true c22
                  clear c22
                  replace H := Option.bind_eq_some_iff.mp H
                  obtain ⟨t173, A230, H⟩ := H
                  replace H : (crossroadlaw06_PathPatterns.j1 kj13 t169 t170 true t173) = some r := H
                  have A23 := Aside0.mk A230
                  clear A230
                  have H' := Aside0.mk H
                  clear H
                  go_wp2_with (first | ((with_reducible refine gate_dst (N := 41) rfl ?_); refine wpList_makeMap_map (base := w.heap.size) K30 E30 rfl 30 rfl (below_size (by repeat (first | (with_reducible first | exact HB.out | apply below_alloc | apply pw_below_drewN | apply below_drew1) | exact HB.out))) ?_; intro VM wM_ hm_ hb_; have HM := Aside0.mk hm_; have nB_ := Aside0.mk (below_step (by repeat (first | (with_reducible first | exact HB.out | apply below_alloc | apply pw_below_drewN | apply below_drew1) | exact HB.out)) hb_); clear HB; have HB := nB_; clear nB_ hm_; (try (have nO_ := Aside0.mk (Kd.R_below (by (with_reducible repeat (first | apply Kd.R_alloc | apply Kd.R_drewN | apply Kd.R_drew)); exact HO172.out) hb_); clear HO172; have HO172 := nO_; clear nO_)); (try (have nO_ := Aside0.mk (Kd.R_below (by (with_reducible repeat (first | apply Kd.R_alloc | apply Kd.R_drewN | apply Kd.R_drew)); exact HO_3.out) hb_); clear HO_3; have HO_3 := nO_; clear nO_)); (try (have nO_ := Aside0.mk (Kd.R_below (by (with_reducible repeat (first | apply Kd.R_alloc | apply Kd.R_drewN | apply Kd.R_drew)); exact HO175.out) hb_); clear HO175; have HO175 := nO_; clear nO_)); clear hb_) | (go_at_call 14; (with_reducible refine (ascii_Words.calls kj13 (a0.extract 1 a0.size) 47 t173 _ A23.out).mono ?_); rintro e w24 ⟨v174, rfl, ho0, hb⟩; have n0_ := Aside0.mk (Kd.R_elder' (by (with_reducible repeat (first | apply Kd.R_alloc | apply Kd.R_drewN | apply Kd.R_drew)); exact HO_3.out) (Kd.R_base ho0) hb); have n1_ := Aside0.mk (Kd.R_lower (Kd.R_new' ho0 (Kd.R_lt (by (with_reducible repeat (first | apply Kd.R_alloc | apply Kd.R_drewN | apply Kd.R_drew)); exact HO_3.out))) (below_size (by repeat (first | (with_reducible first | exact HB.out | apply below_alloc | apply pw_below_drewN | apply below_drew1) | exact HB.out)))); have n2_ := Aside0.mk (below_step (by repeat (first | (with_reducible first | exact HB.out | apply below_alloc | apply pw_below_drewN | apply below_drew1) | exact HB.out)) hb); clear HO_3; clear HB; have HO_3 := n0_; have HO175 := n1_; have HB := n2_; clear n0_ n1_ n2_; (try clear hb); (try clear hb2); (try clear hk); (try clear hi); (try clear ho0)))
                  repeat (go_quiet (first | (go_at_call 14; (with_reducible refine (ascii_Words.calls kj13 (a0.extract 1 a0.size) 47 t173 _ A23.out).mono ?_); rintro e w24 ⟨v174, rfl, ho0, hb⟩; have n0_ := Aside0.mk (Kd.R_elder' (by (with_reducible repeat (first | apply Kd.R_alloc | apply Kd.R_drewN | apply Kd.R_drew)); exact HO_3.out) (Kd.R_base ho0) hb); have n1_ := Aside0.mk (Kd.R_lower (Kd.R_new' ho0 (Kd.R_lt (by (with_reducible repeat (first | apply Kd.R_alloc | apply Kd.R_drewN | apply Kd.R_drew)); exact HO_3.out))) (below_size (by repeat (first | (with_reducible first | exact HB.out | apply below_alloc | apply pw_below_drewN | apply below_drew1) | exact HB.out)))); have n2_ := Aside0.mk (below_step (by repeat (first | (with_reducible first | exact HB.out | apply below_alloc | apply pw_below_drewN | apply below_drew1) | exact HB.out)) hb); clear HO_3; clear HB; have HO_3 := n0_; have HO175 := n1_; have HB := n2_; clear n0_ n1_ n2_; (try clear hb); (try clear hb2); (try clear hk); (try clear hi); (try clear ho0))); try go_wp2_with (first | ((with_reducible refine gate_dst (N := 41) rfl ?_); refine wpList_makeMap_map (base := w.heap.size) K30 E30 rfl 30 rfl (below_size (by repeat (first | (with_reducible first | exact HB.out | apply below_alloc | apply pw_below_drewN | apply below_drew1) | exact HB.out))) ?_; intro VM wM_ hm_ hb_; have HM := Aside0.mk hm_; have nB_ := Aside0.mk (below_step (by repeat (first | (with_reducible first | exact HB.out | apply below_alloc | apply pw_below_drewN | apply below_drew1) | exact HB.out)) hb_); clear HB; have HB := nB_; clear nB_ hm_; (try (have nO_ := Aside0.mk (Kd.R_below (by (with_reducible repeat (first | apply Kd.R_alloc | apply Kd.R_drewN | apply Kd.R_drew)); exact HO172.out) hb_); clear HO172; have HO172 := nO_; clear nO_)); (try (have nO_ := Aside0.mk (Kd.R_below (by (with_reducible repeat (first | apply Kd.R_alloc | apply Kd.R_drewN | apply Kd.R_drew)); exact HO_3.out) hb_); clear HO_3; have HO_3 := nO_; clear nO_)); (try (have nO_ := Aside0.mk (Kd.R_below (by (with_reducible repeat (first | apply Kd.R_alloc | apply Kd.R_drewN | apply Kd.R_drew)); exact HO175.out) hb_); clear HO175; have HO175 := nO_; clear nO_)); clear hb_) | (go_at_call 14; (with_reducible refine (ascii_Words.calls kj13 (a0.extract 1 a0.size) 47 t173 _ A23.out).mono ?_); rintro e w24 ⟨v174, rfl, ho0, hb⟩; have n0_ := Aside0.mk (Kd.R_elder' (by (with_reducible repeat (first | apply Kd.R_alloc | apply Kd.R_drewN | apply Kd.R_drew)); exact HO_3.out) (Kd.R_base ho0) hb); have n1_ := Aside0.mk (Kd.R_lower (Kd.R_new' ho0 (Kd.R_lt (by (with_reducible repeat (first | apply Kd.R_alloc | apply Kd.R_drewN | apply Kd.R_drew)); exact HO_3.out))) (below_size (by repeat (first | (with_reducible first | exact HB.out | apply below_alloc | apply pw_below_drewN | apply below_drew1) | exact HB.out)))); have n2_ := Aside0.mk (below_step (by repeat (first | (with_reducible first | exact HB.out | apply below_alloc | apply pw_below_drewN | apply below_drew1) | exact HB.out)) hb); clear HO_3; clear HB; have HO_3 := n0_; have HO175 := n1_; have HB := n2_; clear n0_ n1_ n2_; (try clear hb); (try clear hb2); (try clear hk); (try clear hi); (try clear ho0))))
                  go_meet
                  case rel => exact ⟨_, (t173), H', ⟨by have := HJ13.out; first | omega | exact Nat.le_refl _⟩, ⟨by (with_reducible repeat (first | apply Kd.R_alloc | apply Kd.R_drewN | apply Kd.R_drew)); exact Kd.R_mono HO_3.out (fun _ hk => hk.2)⟩, ⟨by (with_reducible repeat (first | apply Kd.R_alloc | apply Kd.R_drewN | apply Kd.R_drew)); exact Kd.R_mono HO175.out (fun _ hk => hk.2)⟩, ⟨by repeat (first | (with_reducible first | exact HB.out | apply below_alloc | apply pw_below_drewN | apply below_drew1) | exact HB.out)⟩⟩
                · rw [if_neg c22] at H
                  exact absurd H (by simp)
              · replace c21 := Bool.eq_false_iff.mpr c21
                subst c21
                have H1 : (crossroadlaw06_PathPatterns.j1 kj13 t169 t170 false ([] : List ByteArray)) = some r := by rw [if_neg (show ¬ (false = true) by decide)] at H; exact H
                clear H
                have H := H1
                clear H1
                have H' := Aside0.mk H
                clear H
                go_wp2_with (first | ((with_reducible refine gate_dst (N := 41) rfl ?_); refine wpList_makeMap_map (base := w.heap.size) K30 E30 rfl 30 rfl (below_size (by repeat (first | (with_reducible first | exact HB.out | apply below_alloc | apply pw_below_drewN | apply below_drew1) | exact HB.out))) ?_; intro VM wM_ hm_ hb_; have HM := Aside0.mk hm_; have nB_ := Aside0.mk (below_step (by repeat (first | (with_reducible first | exact HB.out | apply below_alloc | apply pw_below_drewN | apply below_drew1) | exact HB.out)) hb_); clear HB; have HB := nB_; clear nB_ hm_; (try (have nO_ := Aside0.mk (Kd.R_below (by (with_reducible repeat (first | apply Kd.R_alloc | apply Kd.R_drewN | apply Kd.R_drew)); exact HO172.out) hb_); clear HO172; have HO172 := nO_; clear nO_)); (try (have nO_ := Aside0.mk (Kd.R_below (by (with_reducible repeat (first | apply Kd.R_alloc | apply Kd.R_drewN | apply Kd.R_drew)); exact HO_3.out) hb_); clear HO_3; have HO_3 := nO_; clear nO_)); (try (have nO_ := Aside0.mk (Kd.R_below (by (with_reducible repeat (first | apply Kd.R_alloc | apply Kd.R_drewN | apply Kd.R_drew)); exact HO175.out) hb_); clear HO175; have HO175 := nO_; clear nO_)); clear hb_))
                repeat (go_quiet (fail); try go_wp2)
                go_meet
                case rel => exact ⟨_, (([] : List ByteArray)), H', ⟨by have := HJ13.out; first | omega | exact Nat.le_refl _⟩, ⟨by (with_reducible repeat (first | apply Kd.R_alloc | apply Kd.R_drewN | apply Kd.R_drew)); exact Kd.R_mono HO_3.out (fun _ hk => (by simp [Value.ownBlock]))⟩, ⟨by first | exact Kd.R_nil _ _ _ _ _ | exact Kd.N_nil _ _ _ _ _ | exact Kd.V_nil _ _ _ _ _ | exact Kd.Q_nil _ _ _ _ _ | exact Kd.S_nil _ _ _ _ _⟩, ⟨by repeat (first | (with_reducible first | exact HB.out | apply below_alloc | apply pw_below_drewN | apply below_drew1) | exact HB.out)⟩⟩
            case rest =>
              clear HC20
              try clear c1
              try clear p1
              try clear q1
              try clear hx1
              try clear qi1
              try clear c2
              try clear p2
              try clear c3
              try clear c4
              try clear c5
              try clear c7
              try clear c7b0
              try clear c7b1
              try clear c8
              try clear c17
              try clear c17b0
              try clear c17b1
              try clear c18
              try clear c18b0
              try clear c18b1
              try clear p19
              try clear q19
              try clear hx19
              try clear qi19
              try clear c21
              try clear c22
              try clear c22b0
              try clear c22b1
              try clear p1
              try clear p19
              try clear p2
              try clear q1
              try clear q19
              obtain ⟨kq, x6_19, HA, HJ19, HO_3, HO_6, HB⟩ := hcut
              cases kq with
              | zero => exact absurd HA.out (by simp [crossroadlaw06_PathPatterns.j1])
              | succ kj19 =>
                have H := HA.out
                clear HA
                simp only [crossroadlaw06_PathPatterns.j1] at H
                have H' := Aside0.mk H
                clear H
                obtain ⟨Ao25, co25, eo25⟩ := Kd.R_slice HO_6.out
                subst eo25
                go_wp2_with (first | ((with_reducible refine gate_dst (N := 41) rfl ?_); refine wpList_makeMap_map (base := w.heap.size) K30 E30 rfl 30 rfl (below_size (by repeat (first | (with_reducible first | exact HB.out | apply below_alloc | apply pw_below_drewN | apply below_drew1) | exact HB.out))) ?_; intro VM wM_ hm_ hb_; have HM := Aside0.mk hm_; have nB_ := Aside0.mk (below_step (by repeat (first | (with_reducible first | exact HB.out | apply below_alloc | apply pw_below_drewN | apply below_drew1) | exact HB.out)) hb_); clear HB; have HB := nB_; clear nB_ hm_; (try (have nO_ := Aside0.mk (Kd.R_below (by (with_reducible repeat (first | apply Kd.R_alloc | apply Kd.R_drewN | apply Kd.R_drew)); exact HO172.out) hb_); clear HO172; have HO172 := nO_; clear nO_)); (try (have nO_ := Aside0.mk (Kd.R_below (by (with_reducible repeat (first | apply Kd.R_alloc | apply Kd.R_drewN | apply Kd.R_drew)); exact HO_3.out) hb_); clear HO_3; have HO_3 := nO_; clear nO_)); (try (have nO_ := Aside0.mk (Kd.R_below (by (with_reducible repeat (first | apply Kd.R_alloc | apply Kd.R_drewN | apply Kd.R_drew)); exact HO175.out) hb_); clear HO175; have HO175 := nO_; clear nO_)); (try (have nO_ := Aside0.mk (Kd.R_below (by (with_reducible repeat (first | apply Kd.R_alloc | apply Kd.R_drewN | apply Kd.R_drew)); exact HO_6.out) hb_); clear HO_6; have HO_6 := nO_; clear nO_)); clear hb_))
                repeat (go_quiet (fail); try go_wp2)
                go_loopg [5, 44] kj19 (fun kq v5 v44 w' => ∃ (x5_3 : Bool) (x7_3 : List (ByteArray × Int)) (x44_3 : Int), v5 = .bool x5_3 ∧ v44 = .int .i64 x44_3 ∧ Aside0 (crossroadlaw06_PathPatterns.l0 kq t169 t170 x5_3 x6_19 x7_3 x6_19 (x6_19.length : Int) x44_3 = some r) ∧ Aside0 (kq ≤ kj19) ∧ Aside0 (Kd.R Kd.string 9 w' w.heap.size (fun k_ => some k_ ≠ ((.slice Ao25 x6_19.length co25) : Value).ownBlock ∧ some k_ ≠ ((.slice Ao25 x6_19.length co25) : Value).ownBlock) v171 t169) ∧ Aside0 (Kd.R Kd.string 9 w' w.heap.size (fun k_ => some k_ ≠ (v171 : Value).ownBlock) (.slice Ao25 x6_19.length co25) x6_19) ∧ Aside0 (Kd.R Kd.string 9 w' w.heap.size (fun k_ => some k_ ≠ (v171 : Value).ownBlock) (.slice Ao25 x6_19.length co25) x6_19) ∧ Aside0 (MapOwn K30 E30 w' w.heap.size VM x7_3) ∧ Aside0 (Below w.heap.size w w'))
                case atStart => exact ⟨(x5_13), (([] : List (ByteArray × Int))), (0), (by first | rfl | (simp; done) | (simp [*]; done)), (by first | rfl | (simp; done) | (simp [*]; done)), H', ⟨Nat.le_refl _⟩, ⟨by (with_reducible repeat (first | apply Kd.R_alloc | apply Kd.R_drewN | apply Kd.R_drew)); exact Kd.R_mono HO_3.out (fun _ hk => ⟨hk, hk⟩)⟩, ⟨by (with_reducible repeat (first | apply Kd.R_alloc | apply Kd.R_drewN | apply Kd.R_drew)); exact HO_6.out⟩, ⟨by (with_reducible repeat (first | apply Kd.R_alloc | apply Kd.R_drewN | apply Kd.R_drew)); exact HO_6.out⟩, ⟨by (with_reducible repeat (first | apply MapOwn.alloc | apply MapOwn.drewN | apply MapOwn.drew)); exact HM.out⟩, ⟨by repeat (first | (with_reducible first | exact HB.out | apply below_alloc | apply pw_below_drewN | apply below_drew1) | exact HB.out)⟩⟩
                case round =>
                  clear H'
                  try clear c1
                  try clear p1
                  try clear q1
                  try clear hx1
                  try clear qi1
                  try clear c2
                  try clear p2
                  try clear c3
                  try clear c4
                  try clear c5
                  try clear c7
                  try clear c7b0
                  try clear c7b1
                  try clear c8
                  try clear c17
                  try clear c17b0
                  try clear c17b1
                  try clear c18
                  try clear c18b0
                  try clear c18b1
                  try clear p19
                  try clear q19
                  try clear hx19
                  try clear qi19
                  try clear c21
                  try clear c22
                  try clear c22b0
                  try clear c22b1
                  try clear p1
                  try clear p19
                  try clear p2
                  try clear q1
                  try clear q19
                  obtain ⟨x5_3, x7_3, x44_3, rfl, rfl, HA, HK3, HO_3, HO_6, HO_42, HM, HB⟩ := hrel
                  cases gk with
                  | zero => exact absurd HA.out (by simp [crossroadlaw06_PathPatterns.l0])
                  | succ k3 =>
                    have H := HA.out
                    clear HA
                    simp only [crossroadlaw06_PathPatterns.l0] at H
                    by_cases c26 : x44_3 < (x6_19.length : Int)
                    · rw [if_pos c26] at H
                      have c26b0 : decide (x44_3 < (x6_19.length : Int)) = true := decide_eq_true c26
                      clear c26
                      by_cases c27 : 0 ≤ x44_3
                      · rw [if_pos c27] at H
                        have c27b0 : decide (0 ≤ x44_3) = true := decide_eq_true c27
                        clear c27
                        by_cases c28 : x44_3 < (x6_19.length : Int)
                        · rw [if_pos c28] at H
                          have c28b0 : decide (x44_3 < (x6_19.length : Int)) = true := decide_eq_true c28
                          clear c28
                          by_cases c29 : (rdOf ByteArray.empty x6_19 x44_3).toList = ([] : List UInt8)
                          · rw [if_pos c29] at H
                            have c29b0 : ((rdOf ByteArray.empty x6_19 x44_3).toList == ([] : List UInt8)) = true := beq_iff_eq.mpr c29
                            have c29b1 : ((rdOf ByteArray.empty x6_19 x44_3).toList != ([] : List UInt8)) = false := bne_eq_false_iff_eq.mpr c29
                            clear c29
                            have H' := Aside0.mk H
                            clear H
                            have p176 : 0 ≤ (x44_3 : Int) := of_decide_eq_true (by first | (with_reducible assumption) | assumption)
                            have q176 : x44_3 < (x6_19.length : Int) := of_decide_eq_true (by first | (with_reducible assumption) | assumption)
                            obtain ⟨ad176, e176, hx176_0⟩ := Kd.at_string (Kd.R_reads' HO_42.out).2.2 x44_3 p176 q176
                            cases e176
                            replace p176 := eq_true p176
                            replace q176 := eq_true q176
                            go_wp2_with (first | (at_lookup; (try (refine gate_guard (by rfl) ?_; dsimp only)); refine wpList_lookup_map_int (K := K30) (base := w.heap.size) z30 _ Try.underlying3 rfl _ _ 30 rfl Try.underlying30 _ ?hok rfl rfl (by (with_reducible repeat (first | apply MapOwn.alloc | apply MapOwn.drewN | apply MapOwn.drew)); exact HM.out) ?_; (case hok => show (ByteArray.size _) ≤ 9223372036854775807; first | assumption | exact of_decide_eq_true (by first | (with_reducible assumption) | assumption))) | (at_mapUpdate; (try (refine gate_guard (by rfl) ?_; dsimp only)); refine wpList_mapUpdate_map_int (K := K30) (base := w.heap.size) z30 Try.underlying3 _ rfl _ _ _ 30 rfl Try.underlying30 _ _ ?hok ?hel rfl rfl rfl (by (with_reducible repeat (first | apply MapOwn.alloc | apply MapOwn.drewN | apply MapOwn.drew)); exact HM.out) (by first | assumption | exact of_decide_eq_true (by first | (with_reducible assumption) | assumption)) ?_; (case hok => show (ByteArray.size _) ≤ 9223372036854775807; first | assumption | exact of_decide_eq_true (by first | (with_reducible assumption) | assumption)); (case hel => first | assumption | exact wrap64_wf _ | (refine WalkArith.wf_i64 ?_; omega)); intro wM_ hm_ hg_; have nO0_ := Aside0.mk (Kd.R_mapped (by (with_reducible repeat (first | apply Kd.R_alloc | apply Kd.R_drewN | apply Kd.R_drew)); exact HO_3.out) (by (with_reducible repeat (first | apply MapOwn.alloc | apply MapOwn.drewN | apply MapOwn.drew)); exact HM.out : MapOwn K30 E30 _ w.heap.size _ _) hg_); have nO1_ := Aside0.mk (Kd.R_mapped (by (with_reducible repeat (first | apply Kd.R_alloc | apply Kd.R_drewN | apply Kd.R_drew)); exact HO_6.out) (by (with_reducible repeat (first | apply MapOwn.alloc | apply MapOwn.drewN | apply MapOwn.drew)); exact HM.out : MapOwn K30 E30 _ w.heap.size _ _) hg_); have nO2_ := Aside0.mk (Kd.R_mapped (by (with_reducible repeat (first | apply Kd.R_alloc | apply Kd.R_drewN | apply Kd.R_drew)); exact HO_42.out) (by (with_reducible repeat (first | apply MapOwn.alloc | apply MapOwn.drewN | apply MapOwn.drew)); exact HM.out : MapOwn K30 E30 _ w.heap.size _ _) hg_); have nB_ := Aside0.mk (below_mapped (by repeat (first | (with_reducible first | exact HB.out | apply below_alloc | apply pw_below_drewN | apply below_drew1) | exact HB.out)) (by (with_reducible repeat (first | apply MapOwn.alloc | apply MapOwn.drewN | apply MapOwn.drew)); exact HM.out : MapOwn K30 E30 _ w.heap.size _ _) (Nat.le_refl _) hg_); clear HB HM HO_3 HO_6 HO_42; have HM := Aside0.mk hm_; have HB := nB_; clear nB_ hm_ hg_; have HO_3 := nO0_; clear nO0_; have HO_6 := nO1_; clear nO1_; have HO_42 := nO2_; clear nO2_))
                            repeat (go_quiet (fail); try go_wp2)
                            go_roundg k3
                            case measure => have := HJ13.out; have := HJ19.out; have := HK3.out; omega
                            case rel => exact ⟨(false), (x7_3), (wrap64 (x44_3 + 1)), (by first | rfl | (simp; done) | (simp [*]; done)), (by first | rfl | (simp; done) | (simp [*]; done)), H', ⟨by have := HJ13.out; have := HJ19.out; have := HK3.out; omega⟩, ⟨by (with_reducible repeat (first | apply Kd.R_alloc | apply Kd.R_drewN | apply Kd.R_drew)); exact HO_3.out⟩, ⟨by (with_reducible repeat (first | apply Kd.R_alloc | apply Kd.R_drewN | apply Kd.R_drew)); exact HO_6.out⟩, ⟨by (with_reducible repeat (first | apply Kd.R_alloc | apply Kd.R_drewN | apply Kd.R_drew)); exact HO_42.out⟩, ⟨by (with_reducible repeat (first | apply MapOwn.alloc | apply MapOwn.drewN | apply MapOwn.drew)); exact HM.out⟩, ⟨by repeat (first | (with_reducible first | exact HB.out | apply below_alloc | apply pw_below_drewN | apply below_drew1) | exact HB.out)⟩⟩
                          · rw [if_neg c29] at H
                            have c29b0 : ((rdOf ByteArray.empty x6_19 x44_3).toList == ([] : List UInt8)) = false := beq_eq_false_iff_ne.mpr c29
                            have c29b1 : ((rdOf ByteArray.empty x6_19 x44_3).toList != ([] : List UInt8)) = true := bne_iff_ne.mpr c29
                            have HC30 := Aside0.mk H
                            clear H
                            have p176 : 0 ≤ (x44_3 : Int) := of_decide_eq_true (by first | (with_reducible assumption) | assumption)
                            have q176 : x44_3 < (x6_19.length : Int) := of_decide_eq_true (by first | (with_reducible assumption) | assumption)
                            obtain ⟨ad176, e176, hx176_0⟩ := Kd.at_string (Kd.R_reads' HO_42.out).2.2 x44_3 p176 q176
                            cases e176
                            replace p176 := eq_true p176
                            replace q176 := eq_true q176
                            go_upto_region 19 with (fail)
                            repeat (go_quiet (fail); go_upto_region 19 with (fail))
                            go_cut [63] (fun v63 wc => ∃ (kq : Nat) (x63_29 : Bool), v63 = .bool x63_29 ∧ Aside0 (crossroadlaw06_PathPatterns.j3 kq t169 t170 x5_3 x6_19 x7_3 x44_3 (rdOf ByteArray.empty x6_19 x44_3) x6_19 (x6_19.length : Int) x44_3 x63_29 = some r) ∧ Aside0 (kq ≤ k3) ∧ Aside0 (Kd.R Kd.string 9 wc w.heap.size (fun k_ => some k_ ≠ ((.slice (some ad176) x6_19.length co25) : Value).ownBlock ∧ some k_ ≠ ((.slice (some ad176) x6_19.length co25) : Value).ownBlock) v171 t169) ∧ Aside0 (Kd.R Kd.string 9 wc w.heap.size (fun k_ => some k_ ≠ (v171 : Value).ownBlock) (.slice (some ad176) x6_19.length co25) x6_19) ∧ Aside0 (Kd.R Kd.string 9 wc w.heap.size (fun k_ => some k_ ≠ (v171 : Value).ownBlock) (.slice (some ad176) x6_19.length co25) x6_19) ∧ Aside0 (MapOwn K30 E30 wc w.heap.size VM x7_3) ∧ Aside0 (Below w.heap.size w wc))
                            case first =>
                              have H := HC30.out
                              clear HC30
                              by_cases c31 : 0 < ((rdOf ByteArray.empty x6_19 x44_3).size : Int)
                              · rw [if_pos c31] at H
                                have c31b0 : decide (0 < ((rdOf ByteArray.empty x6_19 x44_3).size : Int)) = true := decide_eq_true c31
                                have c31b1 : decide (0 < (rdOf ByteArray.empty x6_19 x44_3).size) = true := decide_eq_true (by omega)
                                clear c31
                                (first | rw [c31b0] | (simp only [i64_w, i32_w]; rw [c31b0]) | skip)
                                by_cases c33 : (bt (rdOf ByteArray.empty x6_19 x44_3) 0) = 58
                                · rw [if_pos c33] at H
                                  have c33b0 : ((bt (rdOf ByteArray.empty x6_19 x44_3) 0) == 58) = true := beq_iff_eq.mpr c33
                                  have c33b1 : ((bt (rdOf ByteArray.empty x6_19 x44_3) 0) != 58) = false := bne_eq_false_iff_eq.mpr c33
                                  clear c33
                                  have H' := Aside0.mk H
                                  clear H
                                  have p32 : 0 ≤ (0 : Int) := (by omega)
                                  have q32 : 0 < (rdOf ByteArray.empty x6_19 x44_3).size := (by have : (0 : Int) < ((rdOf ByteArray.empty x6_19 x44_3).size : Int) := of_decide_eq_true (by first | (with_reducible assumption) | assumption); omega)
                                  have hx32 : ∀ h : 0 < (rdOf ByteArray.empty x6_19 x44_3).size, (((rdOf ByteArray.empty x6_19 x44_3)[0]'h).toNat : Int) = bt (rdOf ByteArray.empty x6_19 x44_3) 0 := bt_at (rdOf ByteArray.empty x6_19 x44_3) 0
                                  clear p32
                                  have qi32 : (0 < ((rdOf ByteArray.empty x6_19 x44_3).size : Int)) = True := eq_true (of_decide_eq_true (by first | (with_reducible assumption) | assumption))
                                  replace q32 := eq_true q32
                                  go_wp2_with (first | (at_lookup; (try (refine gate_guard (by rfl) ?_; dsimp only)); refine wpList_lookup_map_int (K := K30) (base := w.heap.size) z30 _ Try.underlying3 rfl _ _ 30 rfl Try.underlying30 _ ?hok rfl rfl (by (with_reducible repeat (first | apply MapOwn.alloc | apply MapOwn.drewN | apply MapOwn.drew)); exact HM.out) ?_; (case hok => show (ByteArray.size _) ≤ 9223372036854775807; first | assumption | exact of_decide_eq_true (by first | (with_reducible assumption) | assumption))) | (at_mapUpdate; (try (refine gate_guard (by rfl) ?_; dsimp only)); refine wpList_mapUpdate_map_int (K := K30) (base := w.heap.size) z30 Try.underlying3 _ rfl _ _ _ 30 rfl Try.underlying30 _ _ ?hok ?hel rfl rfl rfl (by (with_reducible repeat (first | apply MapOwn.alloc | apply MapOwn.drewN | apply MapOwn.drew)); exact HM.out) (by first | assumption | exact of_decide_eq_true (by first | (with_reducible assumption) | assumption)) ?_; (case hok => show (ByteArray.size _) ≤ 9223372036854775807; first | assumption | exact of_decide_eq_true (by first | (with_reducible assumption) | assumption)); (case hel => first | assumption | exact wrap64_wf _ | (refine WalkArith.wf_i64 ?_; omega)); intro wM_ hm_ hg_; have nO0_ := Aside0.mk (Kd.R_mapped (by (with_reducible repeat (first | apply Kd.R_alloc | apply Kd.R_drewN | apply Kd.R_drew)); exact HO_3.out) (by (with_reducible repeat (first | apply MapOwn.alloc | apply MapOwn.drewN | apply MapOwn.drew)); exact HM.out : MapOwn K30 E30 _ w.heap.size _ _) hg_); have nO1_ := Aside0.mk (Kd.R_mapped (by (with_reducible repeat (first | apply Kd.R_alloc | apply Kd.R_drewN | apply Kd.R_drew)); exact HO_6.out) (by (with_reducible repeat (first | apply MapOwn.alloc | apply MapOwn.drewN | apply MapOwn.drew)); exact HM.out : MapOwn K30 E30 _ w.heap.size _ _) hg_); have nO2_ := Aside0.mk (Kd.R_mapped (by (with_reducible repeat (first | apply Kd.R_alloc | apply Kd.R_drewN | apply Kd.R_drew)); exact HO_42.out) (by (with_reducible repeat (first | apply MapOwn.alloc | apply MapOwn.drewN | apply MapOwn.drew)); exact HM.out : MapOwn K30 E30 _ w.heap.size _ _) hg_); have nB_ := Aside0.mk (below_mapped (by repeat (first | (with_reducible first | exact HB.out | apply below_alloc | apply pw_below_drewN | apply below_drew1) | exact HB.out)) (by (with_reducible repeat (first | apply MapOwn.alloc | apply MapOwn.drewN | apply MapOwn.drew)); exact HM.out : MapOwn K30 E30 _ w.heap.size _ _) (Nat.le_refl _) hg_); clear HB HM HO_3 HO_6 HO_42; have HM := Aside0.mk hm_; have HB := nB_; clear nB_ hm_ hg_; have HO_3 := nO0_; clear nO0_; have HO_6 := nO1_; clear nO1_; have HO_42 := nO2_; clear nO2_))
                                  repeat (go_quiet (fail); try go_wp2)
                                  go_meet
                                  case rel => exact ⟨_, (true), (by first | rfl | (simp; done) | (simp [*]; done)), H', ⟨by have := HJ13.out; have := HJ19.out; have := HK3.out; first | omega | exact Nat.le_refl _⟩, ⟨by (with_reducible repeat (first | apply Kd.R_alloc | apply Kd.R_drewN | apply Kd.R_drew)); exact HO_3.out⟩, ⟨by (with_reducible repeat (first | apply Kd.R_alloc | apply Kd.R_drewN | apply Kd.R_drew)); exact HO_6.out⟩, ⟨by (with_reducible repeat (first | apply Kd.R_alloc | apply Kd.R_drewN | apply Kd.R_drew)); exact HO_42.out⟩, ⟨by (with_reducible repeat (first | apply MapOwn.alloc | apply MapOwn.drewN | apply MapOwn.drew)); exact HM.out⟩, ⟨by repeat (first | (with_reducible first | exact HB.out | apply below_alloc | apply pw_below_drewN | apply below_drew1) | exact HB.out)⟩⟩
                                · rw [if_neg c33] at H
                                  have c33b0 : ((bt (rdOf ByteArray.empty x6_19 x44_3) 0) == 58) = false := beq_eq_false_iff_ne.mpr c33
                                  have c33b1 : ((bt (rdOf ByteArray.empty x6_19 x44_3) 0) != 58) = true := bne_iff_ne.mpr c33
                                  have H' := Aside0.mk H
                                  clear H
                                  have p32 : 0 ≤ (0 : Int) := (by omega)
                                  have q32 : 0 < (rdOf ByteArray.empty x6_19 x44_3).size := (by have : (0 : Int) < ((rdOf ByteArray.empty x6_19 x44_3).size : Int) := of_decide_eq_true (by first | (with_reducible assumption) | assumption); omega)
                                  have hx32 : ∀ h : 0 < (rdOf ByteArray.empty x6_19 x44_3).size, (((rdOf ByteArray.empty x6_19 x44_3)[0]'h).toNat : Int) = bt (rdOf ByteArray.empty x6_19 x44_3) 0 := bt_at (rdOf ByteArray.empty x6_19 x44_3) 0
                                  clear p32
                                  have qi32 : (0 < ((rdOf ByteArray.empty x6_19 x44_3).size : Int)) = True := eq_true (of_decide_eq_true (by first | (with_reducible assumption) | assumption))
                                  replace q32 := eq_true q32
                                  have p34 : 0 ≤ (0 : Int) := (by omega)
                                  have q34 : 0 < (rdOf ByteArray.empty x6_19 x44_3).size := (by have : (0 : Int) < ((rdOf ByteArray.empty x6_19 x44_3).size : Int) := of_decide_eq_true (by first | (with_reducible assumption) | assumption); omega)
                                  have hx34 : ∀ h : 0 < (rdOf ByteArray.empty x6_19 x44_3).size, (((rdOf ByteArray.empty x6_19 x44_3)[0]'h).toNat : Int) = bt (rdOf ByteArray.empty x6_19 x44_3) 0 := bt_at (rdOf ByteArray.empty x6_19 x44_3) 0
                                  clear p34
                                  have qi34 : (0 < ((rdOf ByteArray.empty x6_19 x44_3).size : Int)) = True := eq_true (of_decide_eq_true (by first | (with_reducible assumption) | assumption))
                                  replace q34 := eq_true q34
                                  go_wp2_with (first | (at_lookup; (try (refine gate_guard (by rfl) ?_; dsimp only)); refine wpList_lookup_map_int (K := K30) (base := w.heap.size) z30 _ Try.underlying3 rfl _ _ 30 rfl Try.underlying30 _ ?hok rfl rfl (by (with_reducible repeat (first | apply MapOwn.alloc | apply MapOwn.drewN | apply MapOwn.drew)); exact HM.out) ?_; (case hok => show (ByteArray.size _) ≤ 9223372036854775807; first | assumption | exact of_decide_eq_true (by first | (with_reducible assumption) | assumption))) | (at_mapUpdate; (try (refine gate_guard (by rfl) ?_; dsimp only)); refine wpList_mapUpdate_map_int (K := K30) (base := w.heap.size) z30 Try.underlying3 _ rfl _ _ _ 30 rfl Try.underlying30 _ _ ?hok ?hel rfl rfl rfl (by (with_reducible repeat (first | apply MapOwn.alloc | apply MapOwn.drewN | apply MapOwn.drew)); exact HM.out) (by first | assumption | exact of_decide_eq_true (by first | (with_reducible assumption) | assumption)) ?_; (case hok => show (ByteArray.size _) ≤ 9223372036854775807; first | assumption | exact of_decide_eq_true (by first | (with_reducible assumption) | assumption)); (case hel => first | assumption | exact wrap64_wf _ | (refine WalkArith.wf_i64 ?_; omega)); intro wM_ hm_ hg_; have nO0_ := Aside0.mk (Kd.R_mapped (by (with_reducible repeat (first | apply Kd.R_alloc | apply Kd.R_drewN | apply Kd.R_drew)); exact HO_3.out) (by (with_reducible repeat (first | apply MapOwn.alloc | apply MapOwn.drewN | apply MapOwn.drew)); exact HM.out : MapOwn K30 E30 _ w.heap.size _ _) hg_); have nO1_ := Aside0.mk (Kd.R_mapped (by (with_reducible repeat (first | apply Kd.R_alloc | apply Kd.R_drewN | apply Kd.R_drew)); exact HO_6.out) (by (with_reducible repeat (first | apply MapOwn.alloc | apply MapOwn.drewN | apply MapOwn.drew)); exact HM.out : MapOwn K30 E30 _ w.heap.size _ _) hg_); have nO2_ := Aside0.mk (Kd.R_mapped (by (with_reducible repeat (first | apply Kd.R_alloc | apply Kd.R_drewN | apply Kd.R_drew)); exact HO_42.out) (by (with_reducible repeat (first | apply MapOwn.alloc | apply MapOwn.drewN | apply MapOwn.drew)); exact HM.out : MapOwn K30 E30 _ w.heap.size _ _) hg_); have nB_ := Aside0.mk (below_mapped (by repeat (first | (with_reducible first | exact HB.out | apply below_alloc | apply pw_below_drewN | apply below_drew1) | exact HB.out)) (by (with_reducible repeat (first | apply MapOwn.alloc | apply MapOwn.drewN | apply MapOwn.drew)); exact HM.out : MapOwn K30 E30 _ w.heap.size _ _) (Nat.le_refl _) hg_); clear HB HM HO_3 HO_6 HO_42; have HM := Aside0.mk hm_; have HB := nB_; clear nB_ hm_ hg_; have HO_3 := nO0_; clear nO0_; have HO_6 := nO1_; clear nO1_; have HO_42 := nO2_; clear nO2_))
                                  repeat (go_quiet (fail); try go_wp2)
                                  go_meet
                                  case rel => exact ⟨_, (((bt (rdOf ByteArray.empty x6_19 x44_3) 0) == 42)), (by first | rfl | (simp; done) | (simp [*]; done)), H', ⟨by have := HJ13.out; have := HJ19.out; have := HK3.out; first | omega | exact Nat.le_refl _⟩, ⟨by (with_reducible repeat (first | apply Kd.R_alloc | apply Kd.R_drewN | apply Kd.R_drew)); exact HO_3.out⟩, ⟨by (with_reducible repeat (first | apply Kd.R_alloc | apply Kd.R_drewN | apply Kd.R_drew)); exact HO_6.out⟩, ⟨by (with_reducible repeat (first | apply Kd.R_alloc | apply Kd.R_drewN | apply Kd.R_drew)); exact HO_42.out⟩, ⟨by (with_reducible repeat (first | apply MapOwn.alloc | apply MapOwn.drewN | apply MapOwn.drew)); exact HM.out⟩, ⟨by repeat (first | (with_reducible first | exact HB.out | apply below_alloc | apply pw_below_drewN | apply below_drew1) | exact HB.out)⟩⟩
                              · rw [if_neg c31] at H
                                exact absurd H (by simp)
                            case rest =>
                              clear HC30
                              try clear c1
                              try clear p1
                              try clear q1
                              try clear hx1
                              try clear qi1
                              try clear c2
                              try clear p2
                              try clear c3
                              try clear p3
                              try clear q3
                              try clear hx3
                              try clear qi3
                              try clear c4
                              try clear c5
                              try clear p6
                              try clear c7
                              try clear c7b0
                              try clear c7b1
                              try clear c8
                              try clear c17
                              try clear c17b0
                              try clear c17b1
                              try clear p17
                              try clear q17
                              try clear hx17
                              try clear c18
                              try clear c18b0
                              try clear c18b1
                              try clear p19
                              try clear q19
                              try clear hx19
                              try clear qi19
                              try clear c21
                              try clear c22
                              try clear c22b0
                              try clear c22b1
                              try clear c26
                              try clear c26b0
                              try clear c27
                              try clear c27b0
                              try clear c28
                              try clear c28b0
                              try clear c29
                              try clear c29b0
                              try clear c29b1
                              try clear c31
                              try clear c31b0
                              try clear c31b1
                              try clear p32
                              try clear q32
                              try clear hx32
                              try clear qi32
                              try clear c33
                              try clear c33b0
                              try clear c33b1
                              try clear p34
                              try clear q34
                              try clear hx34
                              try clear qi34
                              try clear hx176_0
                              try clear p1
                              try clear p176
                              try clear p19
                              try clear p2
                              try clear p32
                              try clear p34
                              try clear q1
                              try clear q176
                              try clear q19
                              try clear q32
                              try clear q34
                              obtain ⟨kq, x63_29, rfl, HA, HJ29, HO_3, HO_6, HO_42, HM, HB⟩ := hcut
                              cases kq with
                              | zero => exact absurd HA.out (by simp [crossroadlaw06_PathPatterns.j3])
                              | succ kj29 =>
                                have H := HA.out
                                clear HA
                                simp only [crossroadlaw06_PathPatterns.j3] at H
                                by_cases c35 : x63_29 = true
                                · subst c35
                                  have H1 : (if 1 ≤ ((rdOf ByteArray.empty x6_19 x44_3).size : Int) then (if ((rdOf ByteArray.empty x6_19 x44_3).extract 1 (rdOf ByteArray.empty x6_19 x44_3).size).size ≤ 9223372036854775807 then (if x7_3.length < 9223372036854775807 then (if x5_3 = true then ((ascii_Token.f kj29 ((rdOf ByteArray.empty x6_19 x44_3).extract 1 (rdOf ByteArray.empty x6_19 x44_3).size)).bind fun t177 => (if t177 = true then (if (mapGet 0 (((rdOf ByteArray.empty x6_19 x44_3).extract 1 (rdOf ByteArray.empty x6_19 x44_3).size, wrap64 ((mapGet 0 x7_3 ((rdOf ByteArray.empty x6_19 x44_3).extract 1 (rdOf ByteArray.empty x6_19 x44_3).size)) + 1)) :: x7_3) ((rdOf ByteArray.empty x6_19 x44_3).extract 1 (rdOf ByteArray.empty x6_19 x44_3).size)) = 1 then (if 0 < ((rdOf ByteArray.empty x6_19 x44_3).size : Int) then (if (bt (rdOf ByteArray.empty x6_19 x44_3) 0) = 58 then (crossroadlaw06_PathPatterns.l0 kj29 t169 t170 true x6_19 (((rdOf ByteArray.empty x6_19 x44_3).extract 1 (rdOf ByteArray.empty x6_19 x44_3).size, wrap64 ((mapGet 0 x7_3 ((rdOf ByteArray.empty x6_19 x44_3).extract 1 (rdOf ByteArray.empty x6_19 x44_3).size)) + 1)) :: x7_3) x6_19 (x6_19.length : Int) (wrap64 (x44_3 + 1))) else (crossroadlaw06_PathPatterns.l0 kj29 t169 t170 (x44_3 == (wrap64 ((x6_19.length : Int) - 1))) x6_19 (((rdOf ByteArray.empty x6_19 x44_3).extract 1 (rdOf ByteArray.empty x6_19 x44_3).size, wrap64 ((mapGet 0 x7_3 ((rdOf ByteArray.empty x6_19 x44_3).extract 1 (rdOf ByteArray.empty x6_19 x44_3).size)) + 1)) :: x7_3) x6_19 (x6_19.length : Int) (wrap64 (x44_3 + 1)))) else (none)) else (crossroadlaw06_PathPatterns.l0 kj29 t169 t170 false x6_19 (((rdOf ByteArray.empty x6_19 x44_3).extract 1 (rdOf ByteArray.empty x6_19 x44_3).size, wrap64 ((mapGet 0 x7_3 ((rdOf ByteArray.empty x6_19 x44_3).extract 1 (rdOf ByteArray.empty x6_19 x44_3).size)) + 1)) :: x7_3) x6_19 (x6_19.length : Int) (wrap64 (x44_3 + 1)))) else (crossroadlaw06_PathPatterns.l0 kj29 t169 t170 false x6_19 (((rdOf ByteArray.empty x6_19 x44_3).extract 1 (rdOf ByteArray.empty x6_19 x44_3).size, wrap64 ((mapGet 0 x7_3 ((rdOf ByteArray.empty x6_19 x44_3).extract 1 (rdOf ByteArray.empty x6_19 x44_3).size)) + 1)) :: x7_3) x6_19 (x6_19.length : Int) (wrap64 (x44_3 + 1))))) else (crossroadlaw06_PathPatterns.l0 kj29 t169 t170 false x6_19 (((rdOf ByteArray.empty x6_19 x44_3).extract 1 (rdOf ByteArray.empty x6_19 x44_3).size, wrap64 ((mapGet 0 x7_3 ((rdOf ByteArray.empty x6_19 x44_3).extract 1 (rdOf ByteArray.empty x6_19 x44_3).size)) + 1)) :: x7_3) x6_19 (x6_19.length : Int) (wrap64 (x44_3 + 1)))) else (none)) else (none)) else (none)) = some r := by rw [if_pos rfl] at H; exact H
                                  clear H
                                  have H := H1
                                  clear H1
                                  by_cases c36 : 1 ≤ ((rdOf ByteArray.empty x6_19 x44_3).size : Int)
                                  · rw [if_pos c36] at H
                                    have c36b0 := eq_true c36
                                    have c36b1 : decide (1 ≤ ((rdOf ByteArray.empty x6_19 x44_3).size : Int)) = true := decide_eq_true c36
                                    clear c36
                                    by_cases c37 : ((rdOf ByteArray.empty x6_19 x44_3).extract 1 (rdOf ByteArray.empty x6_19 x44_3).size).size ≤ 9223372036854775807
                                    · rw [if_pos c37] at H
                                      have c37b0 := eq_true c37
                                      have c37b1 : decide (((rdOf ByteArray.empty x6_19 x44_3).extract 1 (rdOf ByteArray.empty x6_19 x44_3).size).size ≤ 9223372036854775807) = true := decide_eq_true c37
                                      try have c37b2 : (9223372036854775807 < ((rdOf ByteArray.empty x6_19 x44_3).extract 1 (rdOf ByteArray.empty x6_19 x44_3).size).size) = False := eq_false (Nat.not_lt.2 c37)
                                      clear c37
                                      by_cases c38 : x7_3.length < 9223372036854775807
                                      · rw [if_pos c38] at H
                                        have c38b0 := eq_true c38
                                        have c38b1 : decide (x7_3.length < 9223372036854775807) = true := decide_eq_true c38
                                        clear c38
                                        by_cases c39 : x5_3 = true
                                        · subst c39
                                          have H1 : ((ascii_Token.f kj29 ((rdOf ByteArray.empty x6_19 x44_3).extract 1 (rdOf ByteArray.empty x6_19 x44_3).size)).bind fun t177 => (if t177 = true then (if (mapGet 0 (((rdOf ByteArray.empty x6_19 x44_3).extract 1 (rdOf ByteArray.empty x6_19 x44_3).size, wrap64 ((mapGet 0 x7_3 ((rdOf ByteArray.empty x6_19 x44_3).extract 1 (rdOf ByteArray.empty x6_19 x44_3).size)) + 1)) :: x7_3) ((rdOf ByteArray.empty x6_19 x44_3).extract 1 (rdOf ByteArray.empty x6_19 x44_3).size)) = 1 then (if 0 < ((rdOf ByteArray.empty x6_19 x44_3).size : Int) then (if (bt (rdOf ByteArray.empty x6_19 x44_3) 0) = 58 then (crossroadlaw06_PathPatterns.l0 kj29 t169 t170 true x6_19 (((rdOf ByteArray.empty x6_19 x44_3).extract 1 (rdOf ByteArray.empty x6_19 x44_3).size, wrap64 ((mapGet 0 x7_3 ((rdOf ByteArray.empty x6_19 x44_3).extract 1 (rdOf ByteArray.empty x6_19 x44_3).size)) + 1)) :: x7_3) x6_19 (x6_19.length : Int) (wrap64 (x44_3 + 1))) else (crossroadlaw06_PathPatterns.l0 kj29 t169 t170 (x44_3 == (wrap64 ((x6_19.length : Int) - 1))) x6_19 (((rdOf ByteArray.empty x6_19 x44_3).extract 1 (rdOf ByteArray.empty x6_19 x44_3).size, wrap64 ((mapGet 0 x7_3 ((rdOf ByteArray.empty x6_19 x44_3).extract 1 (rdOf ByteArray.empty x6_19 x44_3).size)) + 1)) :: x7_3) x6_19 (x6_19.length : Int) (wrap64 (x44_3 + 1)))) else (none)) else (crossroadlaw06_PathPatterns.l0 kj29 t169 t170 false x6_19 (((rdOf ByteArray.empty x6_19 x44_3).extract 1 (rdOf ByteArray.empty x6_19 x44_3).size, wrap64 ((mapGet 0 x7_3 ((rdOf ByteArray.empty x6_19 x44_3).extract 1 (rdOf ByteArray.empty x6_19 x44_3).size)) + 1)) :: x7_3) x6_19 (x6_19.length : Int) (wrap64 (x44_3 + 1)))) else (crossroadlaw06_PathPatterns.l0 kj29 t169 t170 false x6_19 (((rdOf ByteArray.empty x6_19 x44_3).extract 1 (rdOf ByteArray.empty x6_19 x44_3).size, wrap64 ((mapGet 0 x7_3 ((rdOf ByteArray.empty x6_19 x44_3).extract 1 (rdOf ByteArray.empty x6_19 x44_3).size)) + 1)) :: x7_3) x6_19 (x6_19.length : Int) (wrap64 (x44_3 + 1))))) = some r := by rw [if_pos rfl] at H; exact H
                                          clear H
                                          have H := H1
                                          clear H1
                                          have c40b0 := eq_true (of_decide_eq_true (by first | (with_reducible assumption) | assumption) : 1 ≤ ((rdOf ByteArray.empty x6_19 x44_3).size : Int))
                                          replace H := Option.bind_eq_some_iff.mp H
                                          obtain ⟨t177, A410, H⟩ := H
                                          replace H : (if t177 = true then (if (mapGet 0 (((rdOf ByteArray.empty x6_19 x44_3).extract 1 (rdOf ByteArray.empty x6_19 x44_3).size, wrap64 ((mapGet 0 x7_3 ((rdOf ByteArray.empty x6_19 x44_3).extract 1 (rdOf ByteArray.empty x6_19 x44_3).size)) + 1)) :: x7_3) ((rdOf ByteArray.empty x6_19 x44_3).extract 1 (rdOf ByteArray.empty x6_19 x44_3).size)) = 1 then (if 0 < ((rdOf ByteArray.empty x6_19 x44_3).size : Int) then (if (bt (rdOf ByteArray.empty x6_19 x44_3) 0) = 58 then (crossroadlaw06_PathPatterns.l0 kj29 t169 t170 true x6_19 (((rdOf ByteArray.empty x6_19 x44_3).extract 1 (rdOf ByteArray.empty x6_19 x44_3).size, wrap64 ((mapGet 0 x7_3 ((rdOf ByteArray.empty x6_19 x44_3).extract 1 (rdOf ByteArray.empty x6_19 x44_3).size)) + 1)) :: x7_3) x6_19 (x6_19.length : Int) (wrap64 (x44_3 + 1))) else (crossroadlaw06_PathPatterns.l0 kj29 t169 t170 (x44_3 == (wrap64 ((x6_19.length : Int) - 1))) x6_19 (((rdOf ByteArray.empty x6_19 x44_3).extract 1 (rdOf ByteArray.empty x6_19 x44_3).size, wrap64 ((mapGet 0 x7_3 ((rdOf ByteArray.empty x6_19 x44_3).extract 1 (rdOf ByteArray.empty x6_19 x44_3).size)) + 1)) :: x7_3) x6_19 (x6_19.length : Int) (wrap64 (x44_3 + 1)))) else (none)) else (crossroadlaw06_PathPatterns.l0 kj29 t169 t170 false x6_19 (((rdOf ByteArray.empty x6_19 x44_3).extract 1 (rdOf ByteArray.empty x6_19 x44_3).size, wrap64 ((mapGet 0 x7_3 ((rdOf ByteArray.empty x6_19 x44_3).extract 1 (rdOf ByteArray.empty x6_19 x44_3).size)) + 1)) :: x7_3) x6_19 (x6_19.length : Int) (wrap64 (x44_3 + 1)))) else (crossroadlaw06_PathPatterns.l0 kj29 t169 t170 false x6_19 (((rdOf ByteArray.empty x6_19 x44_3).extract 1 (rdOf ByteArray.empty x6_19 x44_3).size, wrap64 ((mapGet 0 x7_3 ((rdOf ByteArray.empty x6_19 x44_3).extract 1 (rdOf ByteArray.empty x6_19 x44_3).size)) + 1)) :: x7_3) x6_19 (x6_19.length : Int) (wrap64 (x44_3 + 1)))) = some r := H
                                          have A41 := Aside0.mk A410
                                          clear A410
                                          by_cases c42 : t177 = true
                                          · subst c42
                                            have H1 : (if (mapGet 0 (((rdOf ByteArray.empty x6_19 x44_3).extract 1 (rdOf ByteArray.empty x6_19 x44_3).size, wrap64 ((mapGet 0 x7_3 ((rdOf ByteArray.empty x6_19 x44_3).extract 1 (rdOf ByteArray.empty x6_19 x44_3).size)) + 1)) :: x7_3) ((rdOf ByteArray.empty x6_19 x44_3).extract 1 (rdOf ByteArray.empty x6_19 x44_3).size)) = 1 then (if 0 < ((rdOf ByteArray.empty x6_19 x44_3).size : Int) then (if (bt (rdOf ByteArray.empty x6_19 x44_3) 0) = 58 then (crossroadlaw06_PathPatterns.l0 kj29 t169 t170 true x6_19 (((rdOf ByteArray.empty x6_19 x44_3).extract 1 (rdOf ByteArray.empty x6_19 x44_3).size, wrap64 ((mapGet 0 x7_3 ((rdOf ByteArray.empty x6_19 x44_3).extract 1 (rdOf ByteArray.empty x6_19 x44_3).size)) + 1)) :: x7_3) x6_19 (x6_19.length : Int) (wrap64 (x44_3 + 1))) else (crossroadlaw06_PathPatterns.l0 kj29 t169 t170 (x44_3 == (wrap64 ((x6_19.length : Int) - 1))) x6_19 (((rdOf ByteArray.empty x6_19 x44_3).extract 1 (rdOf ByteArray.empty x6_19 x44_3).size, wrap64 ((mapGet 0 x7_3 ((rdOf ByteArray.empty x6_19 x44_3).extract 1 (rdOf ByteArray.empty x6_19 x44_3).size)) + 1)) :: x7_3) x6_19 (x6_19.length : Int) (wrap64 (x44_3 + 1)))) else (none)) else (crossroadlaw06_PathPatterns.l0 kj29 t169 t170 false x6_19 (((rdOf ByteArray.empty x6_19 x44_3).extract 1 (rdOf ByteArray.empty x6_19 x44_3).size, wrap64 ((mapGet 0 x7_3 ((rdOf ByteArray.empty x6_19 x44_3).extract 1 (rdOf ByteArray.empty x6_19 x44_3).size)) + 1)) :: x7_3) x6_19 (x6_19.length : Int) (wrap64 (x44_3 + 1)))) = some r := by rw [if_pos rfl] at H; exact H
                                            clear H
                                            have H := H1
                                            clear H1
                                            have c43b0 := eq_true (of_decide_eq_true (by first | (with_reducible assumption) | assumption) : 1 ≤ ((rdOf ByteArray.empty x6_19 x44_3).size : Int))
                                            by_cases c44 : (mapGet 0 (((rdOf ByteArray.empty x6_19 x44_3).extract 1 (rdOf ByteArray.empty x6_19 x44_3).size, wrap64 ((mapGet 0 x7_3 ((rdOf ByteArray.empty x6_19 x44_3).extract 1 (rdOf ByteArray.empty x6_19 x44_3).size)) + 1)) :: x7_3) ((rdOf ByteArray.empty x6_19 x44_3).extract 1 (rdOf ByteArray.empty x6_19 x44_3).size)) = 1
                                            · rw [if_pos c44] at H
                                              have c44b0 : ((mapGet 0 (((rdOf ByteArray.empty x6_19 x44_3).extract 1 (rdOf ByteArray.empty x6_19 x44_3).size, wrap64 ((mapGet 0 x7_3 ((rdOf ByteArray.empty x6_19 x44_3).extract 1 (rdOf ByteArray.empty x6_19 x44_3).size)) + 1)) :: x7_3) ((rdOf ByteArray.empty x6_19 x44_3).extract 1 (rdOf ByteArray.empty x6_19 x44_3).size)) == 1) = true := beq_iff_eq.mpr c44
                                              have c44b1 : ((mapGet 0 (((rdOf ByteArray.empty x6_19 x44_3).extract 1 (rdOf ByteArray.empty x6_19 x44_3).size, wrap64 ((mapGet 0 x7_3 ((rdOf ByteArray.empty x6_19 x44_3).extract 1 (rdOf ByteArray.empty x6_19 x44_3).size)) + 1)) :: x7_3) ((rdOf ByteArray.empty x6_19 x44_3).extract 1 (rdOf ByteArray.empty x6_19 x44_3).size)) != 1) = false := bne_eq_false_iff_eq.mpr c44
                                              clear c44
                                              by_cases c45 : 0 < ((rdOf ByteArray.empty x6_19 x44_3).size : Int)
                                              · rw [if_pos c45] at H
                                                have c45b0 : decide (0 < ((rdOf ByteArray.empty x6_19 x44_3).size : Int)) = true := decide_eq_true c45
                                                have c45b1 : decide (0 < (rdOf ByteArray.empty x6_19 x44_3).size) = true := decide_eq_true (by omega)
                                                clear c45
                                                by_cases c47 : (bt (rdOf ByteArray.empty x6_19 x44_3) 0) = 58
                                                · rw [if_pos c47] at H
                                                  have c47b0 : ((bt (rdOf ByteArray.empty x6_19 x44_3) 0) == 58) = true := beq_iff_eq.mpr c47
                                                  have c47b1 : ((bt (rdOf ByteArray.empty x6_19 x44_3) 0) != 58) = false := bne_eq_false_iff_eq.mpr c47
                                                  clear c47
                                                  have H' := Aside0.mk H
                                                  clear H
                                                  go_wp2_with (first | (at_lookup; (try (refine gate_guard (by rfl) ?_; dsimp only)); refine wpList_lookup_map_int (K := K30) (base := w.heap.size) z30 _ Try.underlying3 rfl _ _ 30 rfl Try.underlying30 _ ?hok rfl rfl (by (with_reducible repeat (first | apply MapOwn.alloc | apply MapOwn.drewN | apply MapOwn.drew)); exact HM.out) ?_; (case hok => show (ByteArray.size _) ≤ 9223372036854775807; first | assumption | exact of_decide_eq_true (by first | (with_reducible assumption) | assumption))) | (at_mapUpdate; (try (refine gate_guard (by rfl) ?_; dsimp only)); refine wpList_mapUpdate_map_int (K := K30) (base := w.heap.size) z30 Try.underlying3 _ rfl _ _ _ 30 rfl Try.underlying30 _ _ ?hok ?hel rfl rfl rfl (by (with_reducible repeat (first | apply MapOwn.alloc | apply MapOwn.drewN | apply MapOwn.drew)); exact HM.out) (by first | assumption | exact of_decide_eq_true (by first | (with_reducible assumption) | assumption)) ?_; (case hok => show (ByteArray.size _) ≤ 9223372036854775807; first | assumption | exact of_decide_eq_true (by first | (with_reducible assumption) | assumption)); (case hel => first | assumption | exact wrap64_wf _ | (refine WalkArith.wf_i64 ?_; omega)); intro wM_ hm_ hg_; have nO0_ := Aside0.mk (Kd.R_mapped (by (with_reducible repeat (first | apply Kd.R_alloc | apply Kd.R_drewN | apply Kd.R_drew)); exact HO_3.out) (by (with_reducible repeat (first | apply MapOwn.alloc | apply MapOwn.drewN | apply MapOwn.drew)); exact HM.out : MapOwn K30 E30 _ w.heap.size _ _) hg_); have nO1_ := Aside0.mk (Kd.R_mapped (by (with_reducible repeat (first | apply Kd.R_alloc | apply Kd.R_drewN | apply Kd.R_drew)); exact HO_6.out) (by (with_reducible repeat (first | apply MapOwn.alloc | apply MapOwn.drewN | apply MapOwn.drew)); exact HM.out : MapOwn K30 E30 _ w.heap.size _ _) hg_); have nO2_ := Aside0.mk (Kd.R_mapped (by (with_reducible repeat (first | apply Kd.R_alloc | apply Kd.R_drewN | apply Kd.R_drew)); exact HO_42.out) (by (with_reducible repeat (first | apply MapOwn.alloc | apply MapOwn.drewN | apply MapOwn.drew)); exact HM.out : MapOwn K30 E30 _ w.heap.size _ _) hg_); have nB_ := Aside0.mk (below_mapped (by repeat (first | (with_reducible first | exact HB.out | apply below_alloc | apply pw_below_drewN | apply below_drew1) | exact HB.out)) (by (with_reducible repeat (first | apply MapOwn.alloc | apply MapOwn.drewN | apply MapOwn.drew)); exact HM.out : MapOwn K30 E30 _ w.heap.size _ _) (Nat.le_refl _) hg_); clear HB HM HO_3 HO_6 HO_42; have HM := Aside0.mk hm_; have HB := nB_; clear nB_ hm_ hg_; have HO_3 := nO0_; clear nO0_; have HO_6 := nO1_; clear nO1_; have HO_42 := nO2_; clear nO2_) | (go_at_call 15; (with_reducible refine (ascii_Token.calls kj29 ((rdOf ByteArray.empty x6_19 x44_3).extract 1 (rdOf ByteArray.empty x6_19 x44_3).size) true _ A41.out).mono ?_); rintro e w' ⟨rfl, ⟨nd, rfl⟩⟩; (try first | exact ⟨rfl, _, World.drewN_drewN _ _ _⟩ | exact ⟨rfl, _, Eq.trans (World.drewN_drewN _ _ _) (congrArg (World.drewN _) (Nat.add_assoc _ _ _))⟩); have p46 : 0 ≤ (0 : Int) := (by omega); have q46 : 0 < (rdOf ByteArray.empty x6_19 x44_3).size := (by have : (0 : Int) < ((rdOf ByteArray.empty x6_19 x44_3).size : Int) := of_decide_eq_true (by first | (with_reducible assumption) | assumption); omega); have hx46 : ∀ h : 0 < (rdOf ByteArray.empty x6_19 x44_3).size, (((rdOf ByteArray.empty x6_19 x44_3)[0]'h).toNat : Int) = bt (rdOf ByteArray.empty x6_19 x44_3) 0 := bt_at (rdOf ByteArray.empty x6_19 x44_3) 0; clear p46; have qi46 : (0 < ((rdOf ByteArray.empty x6_19 x44_3).size : Int)) = True := eq_true (of_decide_eq_true (by first | (with_reducible assumption) | assumption)); replace q46 := eq_true q46))
                                                  repeat (go_quiet (first | (go_at_call 15; (with_reducible refine (ascii_Token.calls kj29 ((rdOf ByteArray.empty x6_19 x44_3).extract 1 (rdOf ByteArray.empty x6_19 x44_3).size) true _ A41.out).mono ?_); rintro e w' ⟨rfl, ⟨nd, rfl⟩⟩; (try first | exact ⟨rfl, _, World.drewN_drewN _ _ _⟩ | exact ⟨rfl, _, Eq.trans (World.drewN_drewN _ _ _) (congrArg (World.drewN _) (Nat.add_assoc _ _ _))⟩); have p46 : 0 ≤ (0 : Int) := (by omega); have q46 : 0 < (rdOf ByteArray.empty x6_19 x44_3).size := (by have : (0 : Int) < ((rdOf ByteArray.empty x6_19 x44_3).size : Int) := of_decide_eq_true (by first | (with_reducible assumption) | assumption); omega); have hx46 : ∀ h : 0 < (rdOf ByteArray.empty x6_19 x44_3).size, (((rdOf ByteArray.empty x6_19 x44_3)[0]'h).toNat : Int) = bt (rdOf ByteArray.empty x6_19 x44_3) 0 := bt_at (rdOf ByteArray.empty x6_19 x44_3) 0; clear p46; have qi46 : (0 < ((rdOf ByteArray.empty x6_19 x44_3).size : Int)) = True := eq_true (of_decide_eq_true (by first | (with_reducible assumption) | assumption)); replace q46 := eq_true q46)); try go_wp2_with (first | (at_lookup; (try (refine gate_guard (by rfl) ?_; dsimp only)); refine wpList_lookup_map_int (K := K30) (base := w.heap.size) z30 _ Try.underlying3 rfl _ _ 30 rfl Try.underlying30 _ ?hok rfl rfl (by (with_reducible repeat (first | apply MapOwn.alloc | apply MapOwn.drewN | apply MapOwn.drew)); exact HM.out) ?_; (case hok => show (ByteArray.size _) ≤ 9223372036854775807; first | assumption | exact of_decide_eq_true (by first | (with_reducible assumption) | assumption))) | (at_mapUpdate; (try (refine gate_guard (by rfl) ?_; dsimp only)); refine wpList_mapUpdate_map_int (K := K30) (base := w.heap.size) z30 Try.underlying3 _ rfl _ _ _ 30 rfl Try.underlying30 _ _ ?hok ?hel rfl rfl rfl (by (with_reducible repeat (first | apply MapOwn.alloc | apply MapOwn.drewN | apply MapOwn.drew)); exact HM.out) (by first | assumption | exact of_decide_eq_true (by first | (with_reducible assumption) | assumption)) ?_; (case hok => show (ByteArray.size _) ≤ 9223372036854775807; first | assumption | exact of_decide_eq_true (by first | (with_reducible assumption) | assumption)); (case hel => first | assumption | exact wrap64_wf _ | (refine WalkArith.wf_i64 ?_; omega)); intro wM_ hm_ hg_; have nO0_ := Aside0.mk (Kd.R_mapped (by (with_reducible repeat (first | apply Kd.R_alloc | apply Kd.R_drewN | apply Kd.R_drew)); exact HO_3.out) (by (with_reducible repeat (first | apply MapOwn.alloc | apply MapOwn.drewN | apply MapOwn.drew)); exact HM.out : MapOwn K30 E30 _ w.heap.size _ _) hg_); have nO1_ := Aside0.mk (Kd.R_mapped (by (with_reducible repeat (first | apply Kd.R_alloc | apply Kd.R_drewN | apply Kd.R_drew)); exact HO_6.out) (by (with_reducible repeat (first | apply MapOwn.alloc | apply MapOwn.drewN | apply MapOwn.drew)); exact HM.out : MapOwn K30 E30 _ w.heap.size _ _) hg_); have nO2_ := Aside0.mk (Kd.R_mapped (by (with_reducible repeat (first | apply Kd.R_alloc | apply Kd.R_drewN | apply Kd.R_drew)); exact HO_42.out) (by (with_reducible repeat (first | apply MapOwn.alloc | apply MapOwn.drewN | apply MapOwn.drew)); exact HM.out : MapOwn K30 E30 _ w.heap.size _ _) hg_); have nB_ := Aside0.mk (below_mapped (by repeat (first | (with_reducible first | exact HB.out | apply below_alloc | apply pw_below_drewN | apply below_drew1) | exact HB.out)) (by (with_reducible repeat (first | apply MapOwn.alloc | apply MapOwn.drewN | apply MapOwn.drew)); exact HM.out : MapOwn K30 E30 _ w.heap.size _ _) (Nat.le_refl _) hg_); clear HB HM HO_3 HO_6 HO_42; have HM := Aside0.mk hm_; have HB := nB_; clear nB_ hm_ hg_; have HO_3 := nO0_; clear nO0_; have HO_6 := nO1_; clear nO1_; have HO_42 := nO2_; clear nO2_) | (go_at_call 15; (with_reducible refine (ascii_Token.calls kj29 ((rdOf ByteArray.empty x6_19 x44_3).extract 1 (rdOf ByteArray.empty x6_19 x44_3).size) true _ A41.out).mono ?_); rintro e w' ⟨rfl, ⟨nd, rfl⟩⟩; (try first | exact ⟨rfl, _, World.drewN_drewN _ _ _⟩ | exact ⟨rfl, _, Eq.trans (World.drewN_drewN _ _ _) (congrArg (World.drewN _) (Nat.add_assoc _ _ _))⟩); have p46 : 0 ≤ (0 : Int) := (by omega); have q46 : 0 < (rdOf ByteArray.empty x6_19 x44_3).size := (by have : (0 : Int) < ((rdOf ByteArray.empty x6_19 x44_3).size : Int) := of_decide_eq_true (by first | (with_reducible assumption) | assumption); omega); have hx46 : ∀ h : 0 < (rdOf ByteArray.empty x6_19 x44_3).size, (((rdOf ByteArray.empty x6_19 x44_3)[0]'h).toNat : Int) = bt (rdOf ByteArray.empty x6_19 x44_3) 0 := bt_at (rdOf ByteArray.empty x6_19 x44_3) 0; clear p46; have qi46 : (0 < ((rdOf ByteArray.empty x6_19 x44_3).size : Int)) = True := eq_true (of_decide_eq_true (by first | (with_reducible assumption) | assumption)); replace q46 := eq_true q46)))
                                                  go_roundg kj29
                                                  case measure => have := HJ13.out; have := HJ19.out; have := HK3.out; have := HJ29.out; omega
                                                  case rel => exact ⟨(true), (((rdOf ByteArray.empty x6_19 x44_3).extract 1 (rdOf ByteArray.empty x6_19 x44_3).size, wrap64 ((mapGet 0 x7_3 ((rdOf ByteArray.empty x6_19 x44_3).extract 1 (rdOf ByteArray.empty x6_19 x44_3).size)) + 1)) :: x7_3), (wrap64 (x44_3 + 1)), (by first | rfl | (simp; done) | (simp [*]; done)), (by first | rfl | (simp; done) | (simp [*]; done)), H', ⟨by have := HJ13.out; have := HJ19.out; have := HK3.out; have := HJ29.out; omega⟩, ⟨by (with_reducible repeat (first | apply Kd.R_alloc | apply Kd.R_drewN | apply Kd.R_drew)); exact HO_3.out⟩, ⟨by (with_reducible repeat (first | apply Kd.R_alloc | apply Kd.R_drewN | apply Kd.R_drew)); exact HO_6.out⟩, ⟨by (with_reducible repeat (first | apply Kd.R_alloc | apply Kd.R_drewN | apply Kd.R_drew)); exact HO_42.out⟩, ⟨by (with_reducible repeat (first | apply MapOwn.alloc | apply MapOwn.drewN | apply MapOwn.drew)); exact HM.out⟩, ⟨by repeat (first | (with_reducible first | exact HB.out | apply below_alloc | apply pw_below_drewN | apply below_drew1) | exact HB.out)⟩⟩
                                                · rw [if_neg c47] at H
                                                  have c47b0 : ((bt (rdOf ByteArray.empty x6_19 x44_3) 0) == 58) = false := beq_eq_false_iff_ne.mpr c47
                                                  have c47b1 : ((bt (rdOf ByteArray.empty x6_19 x44_3) 0) != 58) = true := bne_iff_ne.mpr c47
                                                  have H' := Aside0.mk H
                                                  clear H
                                                  go_wp2_with (first | (at_lookup; (try (refine gate_guard (by rfl) ?_; dsimp only)); refine wpList_lookup_map_int (K := K30) (base := w.heap.size) z30 _ Try.underlying3 rfl _ _ 30 rfl Try.underlying30 _ ?hok rfl rfl (by (with_reducible repeat (first | apply MapOwn.alloc | apply MapOwn.drewN | apply MapOwn.drew)); exact HM.out) ?_; (case hok => show (ByteArray.size _) ≤ 9223372036854775807; first | assumption | exact of_decide_eq_true (by first | (with_reducible assumption) | assumption))) | (at_mapUpdate; (try (refine gate_guard (by rfl) ?_; dsimp only)); refine wpList_mapUpdate_map_int (K := K30) (base := w.heap.size) z30 Try.underlying3 _ rfl _ _ _ 30 rfl Try.underlying30 _ _ ?hok ?hel rfl rfl rfl (by (with_reducible repeat (first | apply MapOwn.alloc | apply MapOwn.drewN | apply MapOwn.drew)); exact HM.out) (by first | assumption | exact of_decide_eq_true (by first | (with_reducible assumption) | assumption)) ?_; (case hok => show (ByteArray.size _) ≤ 9223372036854775807; first | assumption | exact of_decide_eq_true (by first | (with_reducible assumption) | assumption)); (case hel => first | assumption | exact wrap64_wf _ | (refine WalkArith.wf_i64 ?_; omega)); intro wM_ hm_ hg_; have nO0_ := Aside0.mk (Kd.R_mapped (by (with_reducible repeat (first | apply Kd.R_alloc | apply Kd.R_drewN | apply Kd.R_drew)); exact HO_3.out) (by (with_reducible repeat (first | apply MapOwn.alloc | apply MapOwn.drewN | apply MapOwn.drew)); exact HM.out : MapOwn K30 E30 _ w.heap.size _ _) hg_); have nO1_ := Aside0.mk (Kd.R_mapped (by (with_reducible repeat (first | apply Kd.R_alloc | apply Kd.R_drewN | apply Kd.R_drew)); exact HO_6.out) (by (with_reducible repeat (first | apply MapOwn.alloc | apply MapOwn.drewN | apply MapOwn.drew)); exact HM.out : MapOwn K30 E30 _ w.heap.size _ _) hg_); have nO2_ := Aside0.mk (Kd.R_mapped (by (with_reducible repeat (first | apply Kd.R_alloc | apply Kd.R_drewN | apply Kd.R_drew)); exact HO_42.out) (by (with_reducible repeat (first | apply MapOwn.alloc | apply MapOwn.drewN | apply MapOwn.drew)); exact HM.out : MapOwn K30 E30 _ w.heap.size _ _) hg_); have nB_ := Aside0.mk (below_mapped (by repeat (first | (with_reducible first | exact HB.out | apply below_alloc | apply pw_below_drewN | apply below_drew1) | exact HB.out)) (by (with_reducible repeat (first | apply MapOwn.alloc | apply MapOwn.drewN | apply MapOwn.drew)); exact HM.out : MapOwn K30 E30 _ w.heap.size _ _) (Nat.le_refl _) hg_); clear HB HM HO_3 HO_6 HO_42; have HM := Aside0.mk hm_; have HB := nB_; clear nB_ hm_ hg_; have HO_3 := nO0_; clear nO0_; have HO_6 := nO1_; clear nO1_; have HO_42 := nO2_; clear nO2_) | (go_at_call 15; (with_reducible refine (ascii_Token.calls kj29 ((rdOf ByteArray.empty x6_19 x44_3).extract 1 (rdOf ByteArray.empty x6_19 x44_3).size) true _ A41.out).mono ?_); rintro e w' ⟨rfl, ⟨nd, rfl⟩⟩; (try first | exact ⟨rfl, _, World.drewN_drewN _ _ _⟩ | exact ⟨rfl, _, Eq.trans (World.drewN_drewN _ _ _) (congrArg (World.drewN _) (Nat.add_assoc _ _ _))⟩); have p46 : 0 ≤ (0 : Int) := (by omega); have q46 : 0 < (rdOf ByteArray.empty x6_19 x44_3).size := (by have : (0 : Int) < ((rdOf ByteArray.empty x6_19 x44_3).size : Int) := of_decide_eq_true (by first | (with_reducible assumption) | assumption); omega); have hx46 : ∀ h : 0 < (rdOf ByteArray.empty x6_19 x44_3).size, (((rdOf ByteArray.empty x6_19 x44_3)[0]'h).toNat : Int) = bt (rdOf ByteArray.empty x6_19 x44_3) 0 := bt_at (rdOf ByteArray.empty x6_19 x44_3) 0; clear p46; have qi46 : (0 < ((rdOf ByteArray.empty x6_19 x44_3).size : Int)) = True := eq_true (of_decide_eq_true (by first | (with_reducible assumption) | assumption)); replace q46 := eq_true q46))
                                                  repeat (go_quiet (first | (go_at_call 15; (with_reducible refine (ascii_Token.calls kj29 ((rdOf ByteArray.empty x6_19 x44_3).extract 1 (rdOf ByteArray.empty x6_19 x44_3).size) true _ A41.out).mono ?_); rintro e w' ⟨rfl, ⟨nd, rfl⟩⟩; (try first | exact ⟨rfl, _, World.drewN_drewN _ _ _⟩ | exact ⟨rfl, _, Eq.trans (World.drewN_drewN _ _ _) (congrArg (World.drewN _) (Nat.add_assoc _ _ _))⟩); have p46 : 0 ≤ (0 : Int) := (by omega); have q46 : 0 < (rdOf ByteArray.empty x6_19 x44_3).size := (by have : (0 : Int) < ((rdOf ByteArray.empty x6_19 x44_3).size : Int) := of_decide_eq_true (by first | (with_reducible assumption) | assumption); omega); have hx46 : ∀ h : 0 < (rdOf ByteArray.empty x6_19 x44_3).size, (((rdOf ByteArray.empty x6_19 x44_3)[0]'h).toNat : Int) = bt (rdOf ByteArray.empty x6_19 x44_3) 0 := bt_at (rdOf ByteArray.empty x6_19 x44_3) 0; clear p46; have qi46 : (0 < ((rdOf ByteArray.empty x6_19 x44_3).size : Int)) = True := eq_true (of_decide_eq_true (by first | (with_reducible assumption) | assumption)); replace q46 := eq_true q46)); try go_wp2_with (first | (at_lookup; (try (refine gate_guard (by rfl) ?_; dsimp only)); refine wpList_lookup_map_int (K := K30) (base := w.heap.size) z30 _ Try.underlying3 rfl _ _ 30 rfl Try.underlying30 _ ?hok rfl rfl (by (with_reducible repeat (first | apply MapOwn.alloc | apply MapOwn.drewN | apply MapOwn.drew)); exact HM.out) ?_; (case hok => show (ByteArray.size _) ≤ 9223372036854775807; first | assumption | exact of_decide_eq_true (by first | (with_reducible assumption) | assumption))) | (at_mapUpdate; (try (refine gate_guard (by rfl) ?_; dsimp only)); refine wpList_mapUpdate_map_int (K := K30) (base := w.heap.size) z30 Try.underlying3 _ rfl _ _ _ 30 rfl Try.underlying30 _ _ ?hok ?hel rfl rfl rfl (by (with_reducible repeat (first | apply MapOwn.alloc | apply MapOwn.drewN | apply MapOwn.drew)); exact HM.out) (by first | assumption | exact of_decide_eq_true (by first | (with_reducible assumption) | assumption)) ?_; (case hok => show (ByteArray.size _) ≤ 9223372036854775807; first | assumption | exact of_decide_eq_true (by first | (with_reducible assumption) | assumption)); (case hel => first | assumption | exact wrap64_wf _ | (refine WalkArith.wf_i64 ?_; omega)); intro wM_ hm_ hg_; have nO0_ := Aside0.mk (Kd.R_mapped (by (with_reducible repeat (first | apply Kd.R_alloc | apply Kd.R_drewN | apply Kd.R_drew)); exact HO_3.out) (by (with_reducible repeat (first | apply MapOwn.alloc | apply MapOwn.drewN | apply MapOwn.drew)); exact HM.out : MapOwn K30 E30 _ w.heap.size _ _) hg_); have nO1_ := Aside0.mk (Kd.R_mapped (by (with_reducible repeat (first | apply Kd.R_alloc | apply Kd.R_drewN | apply Kd.R_drew)); exact HO_6.out) (by (with_reducible repeat (first | apply MapOwn.alloc | apply MapOwn.drewN | apply MapOwn.drew)); exact HM.out : MapOwn K30 E30 _ w.heap.size _ _) hg_); have nO2_ := Aside0.mk (Kd.R_mapped (by (with_reducible repeat (first | apply Kd.R_alloc | apply Kd.R_drewN | apply Kd.R_drew)); exact HO_42.out) (by (with_reducible repeat (first | apply MapOwn.alloc | apply MapOwn.drewN | apply MapOwn.drew)); exact HM.out : MapOwn K30 E30 _ w.heap.size _ _) hg_); have nB_ := Aside0.mk (below_mapped (by repeat (first | (with_reducible first | exact HB.out | apply below_alloc | apply pw_below_drewN | apply below_drew1) | exact HB.out)) (by (with_reducible repeat (first | apply MapOwn.alloc | apply MapOwn.drewN | apply MapOwn.drew)); exact HM.out : MapOwn K30 E30 _ w.heap.size _ _) (Nat.le_refl _) hg_); clear HB HM HO_3 HO_6 HO_42; have HM := Aside0.mk hm_; have HB := nB_; clear nB_ hm_ hg_; have HO_3 := nO0_; clear nO0_; have HO_6 := nO1_; clear nO1_; have HO_42 := nO2_; clear nO2_) | (go_at_call 15; (with_reducible refine (ascii_Token.calls kj29 ((rdOf ByteArray.empty x6_19 x44_3).extract 1 (rdOf ByteArray.empty x6_19 x44_3).size) true _ A41.out).mono ?_); rintro e w' ⟨rfl, ⟨nd, rfl⟩⟩; (try first | exact ⟨rfl, _, World.drewN_drewN _ _ _⟩ | exact ⟨rfl, _, Eq.trans (World.drewN_drewN _ _ _) (congrArg (World.drewN _) (Nat.add_assoc _ _ _))⟩); have p46 : 0 ≤ (0 : Int) := (by omega); have q46 : 0 < (rdOf ByteArray.empty x6_19 x44_3).size := (by have : (0 : Int) < ((rdOf ByteArray.empty x6_19 x44_3).size : Int) := of_decide_eq_true (by first | (with_reducible assumption) | assumption); omega); have hx46 : ∀ h : 0 < (rdOf ByteArray.empty x6_19 x44_3).size, (((rdOf ByteArray.empty x6_19 x44_3)[0]'h).toNat : Int) = bt (rdOf ByteArray.empty x6_19 x44_3) 0 := bt_at (rdOf ByteArray.empty x6_19 x44_3) 0; clear p46; have qi46 : (0 < ((rdOf ByteArray.empty x6_19 x44_3).size : Int)) = True := eq_true (of_decide_eq_true (by first | (with_reducible assumption) | assumption)); replace q46 := eq_true q46)))
                                                  go_roundg kj29
                                                  case measure => have := HJ13.out; have := HJ19.out; have := HK3.out; have := HJ29.out; omega
                                                  case rel => exact ⟨((x44_3 == (wrap64 ((x6_19.length : Int) - 1)))), (((rdOf ByteArray.empty x6_19 x44_3).extract 1 (rdOf ByteArray.empty x6_19 x44_3).size, wrap64 ((mapGet 0 x7_3 ((rdOf ByteArray.empty x6_19 x44_3).extract 1 (rdOf ByteArray.empty x6_19 x44_3).size)) + 1)) :: x7_3), (wrap64 (x44_3 + 1)), (by first | rfl | (simp; done) | (simp [*]; done)), (by first | rfl | (simp; done) | (simp [*]; done)), H', ⟨by have := HJ13.out; have := HJ19.out; have := HK3.out; have := HJ29.out; omega⟩, ⟨by (with_reducible repeat (first | apply Kd.R_alloc | apply Kd.R_drewN | apply Kd.R_drew)); exact HO_3.out⟩, ⟨by (with_reducible repeat (first | apply Kd.R_alloc | apply Kd.R_drewN | apply Kd.R_drew)); exact HO_6.out⟩, ⟨by (with_reducible repeat (first | apply Kd.R_alloc | apply Kd.R_drewN | apply Kd.R_drew)); exact HO_42.out⟩, ⟨by (with_reducible repeat (first | apply MapOwn.alloc | apply MapOwn.drewN | apply MapOwn.drew)); exact HM.out⟩, ⟨by repeat (first | (with_reducible first | exact HB.out | apply below_alloc | apply pw_below_drewN | apply below_drew1) | exact HB.out)⟩⟩
                                              · rw [if_neg c45] at H
                                                exact absurd H (by simp)
                                            · rw [if_neg c44] at H
                                              have c44b0 : ((mapGet 0 (((rdOf ByteArray.empty x6_19 x44_3).extract 1 (rdOf ByteArray.empty x6_19 x44_3).size, wrap64 ((mapGet 0 x7_3 ((rdOf ByteArray.empty x6_19 x44_3).extract 1 (rdOf ByteArray.empty x6_19 x44_3).size)) + 1)) :: x7_3) ((rdOf ByteArray.empty x6_19 x44_3).extract 1 (rdOf ByteArray.empty x6_19 x44_3).size)) == 1) = false := beq_eq_false_iff_ne.mpr c44
                                              have c44b1 : ((mapGet 0 (((rdOf ByteArray.empty x6_19 x44_3).extract 1 (rdOf ByteArray.empty x6_19 x44_3).size, wrap64 ((mapGet 0 x7_3 ((rdOf ByteArray.empty x6_19 x44_3).extract 1 (rdOf ByteArray.empty x6_19 x44_3).size)) + 1)) :: x7_3) ((rdOf ByteArray.empty x6_19 x44_3).extract 1 (rdOf ByteArray.empty x6_19 x44_3).size)) != 1) = true := bne_iff_ne.mpr c44
                                              have H' := Aside0.mk H
                                              clear H
                                              go_wp2_with (first | (at_lookup; (try (refine gate_guard (by rfl) ?_; dsimp only)); refine wpList_lookup_map_int (K := K30) (base := w.heap.size) z30 _ Try.underlying3 rfl _ _ 30 rfl Try.underlying30 _ ?hok rfl rfl (by (with_reducible repeat (first | apply MapOwn.alloc | apply MapOwn.drewN | apply MapOwn.drew)); exact HM.out) ?_; (case hok => show (ByteArray.size _) ≤ 9223372036854775807; first | assumption | exact of_decide_eq_true (by first | (with_reducible assumption) | assumption))) | (at_mapUpdate; (try (refine gate_guard (by rfl) ?_; dsimp only)); refine wpList_mapUpdate_map_int (K := K30) (base := w.heap.size) z30 Try.underlying3 _ rfl _ _ _ 30 rfl Try.underlying30 _ _ ?hok ?hel rfl rfl rfl (by (with_reducible repeat (first | apply MapOwn.alloc | apply MapOwn.drewN | apply MapOwn.drew)); exact HM.out) (by first | assumption | exact of_decide_eq_true (by first | (with_reducible assumption) | assumption)) ?_; (case hok => show (ByteArray.size _) ≤ 9223372036854775807; first | assumption | exact of_decide_eq_true (by first | (with_reducible assumption) | assumption)); (case hel => first | assumption | exact wrap64_wf _ | (refine WalkArith.wf_i64 ?_; omega)); intro wM_ hm_ hg_; have nO0_ := Aside0.mk (Kd.R_mapped (by (with_reducible repeat (first | apply Kd.R_alloc | apply Kd.R_drewN | apply Kd.R_drew)); exact HO_3.out) (by (with_reducible repeat (first | apply MapOwn.alloc | apply MapOwn.drewN | apply MapOwn.drew)); exact HM.out : MapOwn K30 E30 _ w.heap.size _ _) hg_); have nO1_ := Aside0.mk (Kd.R_mapped (by (with_reducible repeat (first | apply Kd.R_alloc | apply Kd.R_drewN | apply Kd.R_drew)); exact HO_6.out) (by (with_reducible repeat (first | apply MapOwn.alloc | apply MapOwn.drewN | apply MapOwn.drew)); exact HM.out : MapOwn K30 E30 _ w.heap.size _ _) hg_); have nO2_ := Aside0.mk (Kd.R_mapped (by (with_reducible repeat (first | apply Kd.R_alloc | apply Kd.R_drewN | apply Kd.R_drew)); exact HO_42.out) (by (with_reducible repeat (first | apply MapOwn.alloc | apply MapOwn.drewN | apply MapOwn.drew)); exact HM.out : MapOwn K30 E30 _ w.heap.size _ _) hg_); have nB_ := Aside0.mk (below_mapped (by repeat (first | (with_reducible first | exact HB.out | apply below_alloc | apply pw_below_drewN | apply below_drew1) | exact HB.out)) (by (with_reducible repeat (first | apply MapOwn.alloc | apply MapOwn.drewN | apply MapOwn.drew)); exact HM.out : MapOwn K30 E30 _ w.heap.size _ _) (Nat.le_refl _) hg_); clear HB HM HO_3 HO_6 HO_42; have HM := Aside0.mk hm_; have HB := nB_; clear nB_ hm_ hg_; have HO_3 := nO0_; clear nO0_; have HO_6 := nO1_; clear nO1_; have HO_42 := nO2_; clear nO2_) | (go_at_call 15; (with_reducible refine (ascii_Token.calls kj29 ((rdOf ByteArray.empty x6_19 x44_3).extract 1 (rdOf ByteArray.empty x6_19 x44_3).size) true _ A41.out).mono ?_); rintro e w' ⟨rfl, ⟨nd, rfl⟩⟩; (try first | exact ⟨rfl, _, World.drewN_drewN _ _ _⟩ | exact ⟨rfl, _, Eq.trans (World.drewN_drewN _ _ _) (congrArg (World.drewN _) (Nat.add_assoc _ _ _))⟩)))
                                              repeat (go_quiet (first | (go_at_call 15; (with_reducible refine (ascii_Token.calls kj29 ((rdOf ByteArray.empty x6_19 x44_3).extract 1 (rdOf ByteArray.empty x6_19 x44_3).size) true _ A41.out).mono ?_); rintro e w' ⟨rfl, ⟨nd, rfl⟩⟩; (try first | exact ⟨rfl, _, World.drewN_drewN _ _ _⟩ | exact ⟨rfl, _, Eq.trans (World.drewN_drewN _ _ _) (congrArg (World.drewN _) (Nat.add_assoc _ _ _))⟩))); try go_wp2_with (first | (at_lookup; (try (refine gate_guard (by rfl) ?_; dsimp only)); refine wpList_lookup_map_int (K := K30) (base := w.heap.size) z30 _ Try.underlying3 rfl _ _ 30 rfl Try.underlying30 _ ?hok rfl rfl (by (with_reducible repeat (first | apply MapOwn.alloc | apply MapOwn.drewN | apply MapOwn.drew)); exact HM.out) ?_; (case hok => show (ByteArray.size _) ≤ 9223372036854775807; first | assumption | exact of_decide_eq_true (by first | (with_reducible assumption) | assumption))) | (at_mapUpdate; (try (refine gate_guard (by rfl) ?_; dsimp only)); refine wpList_mapUpdate_map_int (K := K30) (base := w.heap.size) z30 Try.underlying3 _ rfl _ _ _ 30 rfl Try.underlying30 _ _ ?hok ?hel rfl rfl rfl (by (with_reducible repeat (first | apply MapOwn.alloc | apply MapOwn.drewN | apply MapOwn.drew)); exact HM.out) (by first | assumption | exact of_decide_eq_true (by first | (with_reducible assumption) | assumption)) ?_; (case hok => show (ByteArray.size _) ≤ 9223372036854775807; first | assumption | exact of_decide_eq_true (by first | (with_reducible assumption) | assumption)); (case hel => first | assumption | exact wrap64_wf _ | (refine WalkArith.wf_i64 ?_; omega)); intro wM_ hm_ hg_; have nO0_ := Aside0.mk (Kd.R_mapped (by (with_reducible repeat (first | apply Kd.R_alloc | apply Kd.R_drewN | apply Kd.R_drew)); exact HO_3.out) (by (with_reducible repeat (first | apply MapOwn.alloc | apply MapOwn.drewN | apply MapOwn.drew)); exact HM.out : MapOwn K30 E30 _ w.heap.size _ _) hg_); have nO1_ := Aside0.mk (Kd.R_mapped (by (with_reducible repeat (first | apply Kd.R_alloc | apply Kd.R_drewN | apply Kd.R_drew)); exact HO_6.out) (by (with_reducible repeat (first | apply MapOwn.alloc | apply MapOwn.drewN | apply MapOwn.drew)); exact HM.out : MapOwn K30 E30 _ w.heap.size _ _) hg_); have nO2_ := Aside0.mk (Kd.R_mapped (by (with_reducible repeat (first | apply Kd.R_alloc | apply Kd.R_drewN | apply Kd.R_drew)); exact HO_42.out) (by (with_reducible repeat (first | apply MapOwn.alloc | apply MapOwn.drewN | apply MapOwn.drew)); exact HM.out : MapOwn K30 E30 _ w.heap.size _ _) hg_); have nB_ := Aside0.mk (below_mapped (by repeat (first | (with_reducible first | exact HB.out | apply below_alloc | apply pw_below_drewN | apply below_drew1) | exact HB.out)) (by (with_reducible repeat (first | apply MapOwn.alloc | apply MapOwn.drewN | apply MapOwn.drew)); exact HM.out : MapOwn K30 E30 _ w.heap.size _ _) (Nat.le_refl _) hg_); clear HB HM HO_3 HO_6 HO_42; have HM := Aside0.mk hm_; have HB := nB_; clear nB_ hm_ hg_; have HO_3 := nO0_; clear nO0_; have HO_6 := nO1_; clear nO1_; have HO_42 := nO2_; clear nO2_) | (go_at_call 15; (with_reducible refine (ascii_Token.calls kj29 ((rdOf ByteArray.empty x6_19 x44_3).extract 1 (rdOf ByteArray.empty x6_19 x44_3).size) true _ A41.out).mono ?_); rintro e w' ⟨rfl, ⟨nd, rfl⟩⟩; (try first | exact ⟨rfl, _, World.drewN_drewN _ _ _⟩ | exact ⟨rfl, _, Eq.trans (World.drewN_drewN _ _ _) (congrArg (World.drewN _) (Nat.add_assoc _ _ _))⟩))))
                                              go_roundg kj29
                                              case measure => have := HJ13.out; have := HJ19.out; have := HK3.out; have := HJ29.out; omega
                                              case rel => exact ⟨(false), (((rdOf ByteArray.empty x6_19 x44_3).extract 1 (rdOf ByteArray.empty x6_19 x44_3).size, wrap64 ((mapGet 0 x7_3 ((rdOf ByteArray.empty x6_19 x44_3).extract 1 (rdOf ByteArray.empty x6_19 x44_3).size)) + 1)) :: x7_3), (wrap64 (x44_3 + 1)), (by first | rfl | (simp; done) | (simp [*]; done)), (by first | rfl | (simp; done) | (simp [*]; done)), H', ⟨by have := HJ13.out; have := HJ19.out; have := HK3.out; have := HJ29.out; omega⟩, ⟨by (with_reducible repeat (first | apply Kd.R_alloc | apply Kd.R_drewN | apply Kd.R_drew)); exact HO_3.out⟩, ⟨by (with_reducible repeat (first | apply Kd.R_alloc | apply Kd.R_drewN | apply Kd.R_drew)); exact HO_6.out⟩, ⟨by (with_reducible repeat (first | apply Kd.R_alloc | apply Kd.R_drewN | apply Kd.R_drew)); exact HO_42.out⟩, ⟨by (with_reducible repeat (first | apply MapOwn.alloc | apply MapOwn.drewN | apply MapOwn.drew)); exact HM.out⟩, ⟨by repeat (first | (with_reducible first | exact HB.out | apply below_alloc | apply pw_below_drewN | apply below_drew1) | exact HB.out)⟩⟩
                                          · replace c42 := Bool.eq_false_iff.mpr c42
                                            subst c42
                                            have H1 : (crossroadlaw06_PathPatterns.l0 kj29 t169 t170 false x6_19 (((rdOf ByteArray.empty x6_19 x44_3).extract 1 (rdOf ByteArray.empty x6_19 x44_3).size, wrap64 ((mapGet 0 x7_3 ((rdOf ByteArray.empty x6_19 x44_3).extract 1 (rdOf ByteArray.empty x6_19 x44_3).size)) + 1)) :: x7_3) x6_19 (x6_19.length : Int) (wrap64 (x44_3 + 1))) = some r := by rw [if_neg (show ¬ (false = true) by decide)] at H; exact H
                                            clear H
                                            have H := H1
                                            clear H1
                                            have H' := Aside0.mk H
                                            clear H
                                            go_wp2_with (first | (at_lookup; (try (refine gate_guard (by rfl) ?_; dsimp only)); refine wpList_lookup_map_int (K := K30) (base := w.heap.size) z30 _ Try.underlying3 rfl _ _ 30 rfl Try.underlying30 _ ?hok rfl rfl (by (with_reducible repeat (first | apply MapOwn.alloc | apply MapOwn.drewN | apply MapOwn.drew)); exact HM.out) ?_; (case hok => show (ByteArray.size _) ≤ 9223372036854775807; first | assumption | exact of_decide_eq_true (by first | (with_reducible assumption) | assumption))) | (at_mapUpdate; (try (refine gate_guard (by rfl) ?_; dsimp only)); refine wpList_mapUpdate_map_int (K := K30) (base := w.heap.size) z30 Try.underlying3 _ rfl _ _ _ 30 rfl Try.underlying30 _ _ ?hok ?hel rfl rfl rfl (by (with_reducible repeat (first | apply MapOwn.alloc | apply MapOwn.drewN | apply MapOwn.drew)); exact HM.out) (by first | assumption | exact of_decide_eq_true (by first | (with_reducible assumption) | assumption)) ?_; (case hok => show (ByteArray.size _) ≤ 9223372036854775807; first | assumption | exact of_decide_eq_true (by first | (with_reducible assumption) | assumption)); (case hel => first | assumption | exact wrap64_wf _ | (refine WalkArith.wf_i64 ?_; omega)); intro wM_ hm_ hg_; have nO0_ := Aside0.mk (Kd.R_mapped (by (with_reducible repeat (first | apply Kd.R_alloc | apply Kd.R_drewN | apply Kd.R_drew)); exact HO_3.out) (by (with_reducible repeat (first | apply MapOwn.alloc | apply MapOwn.drewN | apply MapOwn.drew)); exact HM.out : MapOwn K30 E30 _ w.heap.size _ _) hg_); have nO1_ := Aside0.mk (Kd.R_mapped (by (with_reducible repeat (first | apply Kd.R_alloc | apply Kd.R_drewN | apply Kd.R_drew)); exact HO_6.out) (by (with_reducible repeat (first | apply MapOwn.alloc | apply MapOwn.drewN | apply MapOwn.drew)); exact HM.out : MapOwn K30 E30 _ w.heap.size _ _) hg_); have nO2_ := Aside0.mk (Kd.R_mapped (by (with_reducible repeat (first | apply Kd.R_alloc | apply Kd.R_drewN | apply Kd.R_drew)); exact HO_42.out) (by (with_reducible repeat (first | apply MapOwn.alloc | apply MapOwn.drewN | apply MapOwn.drew)); exact HM.out : MapOwn K30 E30 _ w.heap.size _ _) hg_); have nB_ := Aside0.mk (below_mapped (by repeat (first | (with_reducible first | exact HB.out | apply below_alloc | apply pw_below_drewN | apply below_drew1) | exact HB.out)) (by (with_reducible repeat (first | apply MapOwn.alloc | apply MapOwn.drewN | apply MapOwn.drew)); exact HM.out : MapOwn K30 E30 _ w.heap.size _ _) (Nat.le_refl _) hg_); clear HB HM HO_3 HO_6 HO_42; have HM := Aside0.mk hm_; have HB := nB_; clear nB_ hm_ hg_; have HO_3 := nO0_; clear nO0_; have HO_6 := nO1_; clear nO1_; have HO_42 := nO2_; clear nO2_) | (go_at_call 15; (with_reducible refine (ascii_Token.calls kj29 ((rdOf ByteArray.empty x6_19 x44_3).extract 1 (rdOf ByteArray.empty x6_19 x44_3).size) false _ A41.out).mono ?_); rintro e w' ⟨rfl, ⟨nd, rfl⟩⟩; (try first | exact ⟨rfl, _, World.drewN_drewN _ _ _⟩ | exact ⟨rfl, _, Eq.trans (World.drewN_drewN _ _ _) (congrArg (World.drewN _) (Nat.add_assoc _ _ _))⟩)))
                                            repeat (go_quiet (first | (go_at_call 15; (with_reducible refine (ascii_Token.calls kj29 ((rdOf ByteArray.empty x6_19 x44_3).extract 1 (rdOf ByteArray.empty x6_19 x44_3).size) false _ A41.out).mono ?_); rintro e w' ⟨rfl, ⟨nd, rfl⟩⟩; (try first | exact ⟨rfl, _, World.drewN_drewN _ _ _⟩ | exact ⟨rfl, _, Eq.trans (World.drewN_drewN _ _ _) (congrArg (World.drewN _) (Nat.add_assoc _ _ _))⟩))); try go_wp2_with (first | (at_lookup; (try (refine gate_guard (by rfl) ?_; dsimp only)); refine wpList_lookup_map_int (K := K30) (base := w.heap.size) z30 _ Try.underlying3 rfl _ _ 30 rfl Try.underlying30 _ ?hok rfl rfl (by (with_reducible repeat (first | apply MapOwn.alloc | apply MapOwn.drewN | apply MapOwn.drew)); exact HM.out) ?_; (case hok => show (ByteArray.size _) ≤ 9223372036854775807; first | assumption | exact of_decide_eq_true (by first | (with_reducible assumption) | assumption))) | (at_mapUpdate; (try (refine gate_guard (by rfl) ?_; dsimp only)); refine wpList_mapUpdate_map_int (K := K30) (base := w.heap.size) z30 Try.underlying3 _ rfl _ _ _ 30 rfl Try.underlying30 _ _ ?hok ?hel rfl rfl rfl (by (with_reducible repeat (first | apply MapOwn.alloc | apply MapOwn.drewN | apply MapOwn.drew)); exact HM.out) (by first | assumption | exact of_decide_eq_true (by first | (with_reducible assumption) | assumption)) ?_; (case hok => show (ByteArray.size _) ≤ 9223372036854775807; first | assumption | exact of_decide_eq_true (by first | (with_reducible assumption) | assumption)); (case hel => first | assumption | exact wrap64_wf _ | (refine WalkArith.wf_i64 ?_; omega)); intro wM_ hm_ hg_; have nO0_ := Aside0.mk (Kd.R_mapped (by (with_reducible repeat (first | apply Kd.R_alloc | apply Kd.R_drewN | apply Kd.R_drew)); exact HO_3.out) (by (with_reducible repeat (first | apply MapOwn.alloc | apply MapOwn.drewN | apply MapOwn.drew)); exact HM.out : MapOwn K30 E30 _ w.heap.size _ _) hg_); have nO1_ := Aside0.mk (Kd.R_mapped (by (with_reducible repeat (first | apply Kd.R_alloc | apply Kd.R_drewN | apply Kd.R_drew)); exact HO_6.out) (by (with_reducible repeat (first | apply MapOwn.alloc | apply MapOwn.drewN | apply MapOwn.drew)); exact HM.out : MapOwn K30 E30 _ w.heap.size _ _) hg_); have nO2_ := Aside0.mk (Kd.R_mapped (by (with_reducible repeat (first | apply Kd.R_alloc | apply Kd.R_drewN | apply Kd.R_drew)); exact HO_42.out) (by (with_reducible repeat (first | apply MapOwn.alloc | apply MapOwn.drewN | apply MapOwn.drew)); exact HM.out : MapOwn K30 E30 _ w.heap.size _ _) hg_); have nB_ := Aside0.mk (below_mapped (by repeat (first | (with_reducible first | exact HB.out | apply below_alloc | apply pw_below_drewN | apply below_drew1) | exact HB.out)) (by (with_reducible repeat (first | apply MapOwn.alloc | apply MapOwn.drewN | apply MapOwn.drew)); exact HM.out : MapOwn K30 E30 _ w.heap.size _ _) (Nat.le_refl _) hg_); clear HB HM HO_3 HO_6 HO_42; have HM := Aside0.mk hm_; have HB := nB_; clear nB_ hm_ hg_; have HO_3 := nO0_; clear nO0_; have HO_6 := nO1_; clear nO1_; have HO_42 := nO2_; clear nO2_) | (go_at_call 15; (with_reducible refine (ascii_Token.calls kj29 ((rdOf ByteArray.empty x6_19 x44_3).extract 1 (rdOf ByteArray.empty x6_19 x44_3).size) false _ A41.out).mono ?_); rintro e w' ⟨rfl, ⟨nd, rfl⟩⟩; (try first | exact ⟨rfl, _, World.drewN_drewN _ _ _⟩ | exact ⟨rfl, _, Eq.trans (World.drewN_drewN _ _ _) (congrArg (World.drewN _) (Nat.add_assoc _ _ _))⟩))))
                                            go_roundg kj29
                                            case measure => have := HJ13.out; have := HJ19.out; have := HK3.out; have := HJ29.out; omega
                                            case rel => exact ⟨(false), (((rdOf ByteArray.empty x6_19 x44_3).extract 1 (rdOf ByteArray.empty x6_19 x44_3).size, wrap64 ((mapGet 0 x7_3 ((rdOf ByteArray.empty x6_19 x44_3).extract 1 (rdOf ByteArray.empty x6_19 x44_3).size)) + 1)) :: x7_3), (wrap64 (x44_3 + 1)), (by first | rfl | (simp; done) | (simp [*]; done)), (by first | rfl | (simp; done) | (simp [*]; done)), H', ⟨by have := HJ13.out; have := HJ19.out; have := HK3.out; have := HJ29.out; omega⟩, ⟨by (with_reducible repeat (first | apply Kd.R_alloc | apply Kd.R_drewN | apply Kd.R_drew)); exact HO_3.out⟩, ⟨by (with_reducible repeat (first | apply Kd.R_alloc | apply Kd.R_drewN | apply Kd.R_drew)); exact HO_6.out⟩, ⟨by (with_reducible repeat (first | apply Kd.R_alloc | apply Kd.R_drewN | apply Kd.R_drew)); exact HO_42.out⟩, ⟨by (with_reducible repeat (first | apply MapOwn.alloc | apply MapOwn.drewN | apply MapOwn.drew)); exact HM.out⟩, ⟨by repeat (first | (with_reducible first | exact HB.out | apply below_alloc | apply pw_below_drewN | apply below_drew1) | exact HB.out)⟩⟩
                                        · replace c39 := Bool.eq_false_iff.mpr c39
                                          subst c39
                                          have H1 : (crossroadlaw06_PathPatterns.l0 kj29 t169 t170 false x6_19 (((rdOf ByteArray.empty x6_19 x44_3).extract 1 (rdOf ByteArray.empty x6_19 x44_3).size, wrap64 ((mapGet 0 x7_3 ((rdOf ByteArray.empty x6_19 x44_3).extract 1 (rdOf ByteArray.empty x6_19 x44_3).size)) + 1)) :: x7_3) x6_19 (x6_19.length : Int) (wrap64 (x44_3 + 1))) = some r := by rw [if_neg (show ¬ (false = true) by decide)] at H; exact H
                                          clear H
                                          have H := H1
                                          clear H1
                                          have H' := Aside0.mk H
                                          clear H
                                          go_wp2_with (first | (at_lookup; (try (refine gate_guard (by rfl) ?_; dsimp only)); refine wpList_lookup_map_int (K := K30) (base := w.heap.size) z30 _ Try.underlying3 rfl _ _ 30 rfl Try.underlying30 _ ?hok rfl rfl (by (with_reducible repeat (first | apply MapOwn.alloc | apply MapOwn.drewN | apply MapOwn.drew)); exact HM.out) ?_; (case hok => show (ByteArray.size _) ≤ 9223372036854775807; first | assumption | exact of_decide_eq_true (by first | (with_reducible assumption) | assumption))) | (at_mapUpdate; (try (refine gate_guard (by rfl) ?_; dsimp only)); refine wpList_mapUpdate_map_int (K := K30) (base := w.heap.size) z30 Try.underlying3 _ rfl _ _ _ 30 rfl Try.underlying30 _ _ ?hok ?hel rfl rfl rfl (by (with_reducible repeat (first | apply MapOwn.alloc | apply MapOwn.drewN | apply MapOwn.drew)); exact HM.out) (by first | assumption | exact of_decide_eq_true (by first | (with_reducible assumption) | assumption)) ?_; (case hok => show (ByteArray.size _) ≤ 9223372036854775807; first | assumption | exact of_decide_eq_true (by first | (with_reducible assumption) | assumption)); (case hel => first | assumption | exact wrap64_wf _ | (refine WalkArith.wf_i64 ?_; omega)); intro wM_ hm_ hg_; have nO0_ := Aside0.mk (Kd.R_mapped (by (with_reducible repeat (first | apply Kd.R_alloc | apply Kd.R_drewN | apply Kd.R_drew)); exact HO_3.out) (by (with_reducible repeat (first | apply MapOwn.alloc | apply MapOwn.drewN | apply MapOwn.drew)); exact HM.out : MapOwn K30 E30 _ w.heap.size _ _) hg_); have nO1_ := Aside0.mk (Kd.R_mapped (by (with_reducible repeat (first | apply Kd.R_alloc | apply Kd.R_drewN | apply Kd.R_drew)); exact HO_6.out) (by (with_reducible repeat (first | apply MapOwn.alloc | apply MapOwn.drewN | apply MapOwn.drew)); exact HM.out : MapOwn K30 E30 _ w.heap.size _ _) hg_); have nO2_ := Aside0.mk (Kd.R_mapped (by (with_reducible repeat (first | apply Kd.R_alloc | apply Kd.R_drewN | apply Kd.R_drew)); exact HO_42.out) (by (with_reducible repeat (first | apply MapOwn.alloc | apply MapOwn.drewN | apply MapOwn.drew)); exact HM.out : MapOwn K30 E30 _ w.heap.size _ _) hg_); have nB_ := Aside0.mk (below_mapped (by repeat (first | (with_reducible first | exact HB.out | apply below_alloc | apply pw_below_drewN | apply below_drew1) | exact HB.out)) (by (with_reducible repeat (first | apply MapOwn.alloc | apply MapOwn.drewN | apply MapOwn.drew)); exact HM.out : MapOwn K30 E30 _ w.heap.size _ _) (Nat.le_refl _) hg_); clear HB HM HO_3 HO_6 HO_42; have HM := Aside0.mk hm_; have HB := nB_; clear nB_ hm_ hg_; have HO_3 := nO0_; clear nO0_; have HO_6 := nO1_; clear nO1_; have HO_42 := nO2_; clear nO2_))
                                          repeat (go_quiet (fail); try go_wp2)
                                          go_roundg kj29
                                          case measure => have := HJ13.out; have := HJ19.out; have := HK3.out; have := HJ29.out; omega
                                          case rel => exact ⟨(false), (((rdOf ByteArray.empty x6_19 x44_3).extract 1 (rdOf ByteArray.empty x6_19 x44_3).size, wrap64 ((mapGet 0 x7_3 ((rdOf ByteArray.empty x6_19 x44_3).extract 1 (rdOf ByteArray.empty x6_19 x44_3).size)) + 1)) :: x7_3), (wrap64 (x44_3 + 1)), (by first | rfl | (simp; done) | (simp [*]; done)), (by first | rfl | (simp; done) | (simp [*]; done)), H', ⟨by have := HJ13.out; have := HJ19.out; have := HK3.out; have := HJ29.out; omega⟩, ⟨by (with_reducible repeat (first | apply Kd.R_alloc | apply Kd.R_drewN | apply Kd.R_drew)); exact HO_3.out⟩, ⟨by (with_reducible repeat (first | apply Kd.R_alloc | apply Kd.R_drewN | apply Kd.R_drew)); exact HO_6.out⟩, ⟨by (with_reducible repeat (first | apply Kd.R_alloc | apply Kd.R_drewN | apply Kd.R_drew)); exact HO_42.out⟩, ⟨by (with_reducible repeat (first | apply MapOwn.alloc | apply MapOwn.drewN | apply MapOwn.drew)); exact HM.out⟩, ⟨by repeat (first | (with_reducible first | exact HB.out | apply below_alloc | apply pw_below_drewN | apply below_drew1) | exact HB.out)⟩⟩
                                      · rw [if_neg c38] at H
                                        exact absurd H (by simp)
                                    · rw [if_neg c37] at H
                                      exact absurd H (by simp)
                                  · rw [if_neg c36] at H
                                    exact absurd H (by simp)
                                · replace c35 := Bool.eq_false_iff.mpr c35
                                  subst c35
                                  have H1 : (if x5_3 = true then ((ascii_Token.f kj29 (rdOf ByteArray.empty x6_19 x44_3)).bind fun t178 => (if t178 = true then ((ascii_Words.f kj29 (rdOf ByteArray.empty x6_19 x44_3) 37).bind fun t179 => (crossroadlaw06_PathPatterns.l0 kj29 t169 t170 ((t179.length : Int) == 1) x6_19 x7_3 x6_19 (x6_19.length : Int) (wrap64 (x44_3 + 1)))) else (crossroadlaw06_PathPatterns.l0 kj29 t169 t170 false x6_19 x7_3 x6_19 (x6_19.length : Int) (wrap64 (x44_3 + 1))))) else (crossroadlaw06_PathPatterns.l0 kj29 t169 t170 false x6_19 x7_3 x6_19 (x6_19.length : Int) (wrap64 (x44_3 + 1)))) = some r := by rw [if_neg (show ¬ (false = true) by decide)] at H; exact H
                                  clear H
                                  have H := H1
                                  clear H1
                                  by_cases c48 : x5_3 = true
                                  · subst c48
                                    have H1 : ((ascii_Token.f kj29 (rdOf ByteArray.empty x6_19 x44_3)).bind fun t178 => (if t178 = true then ((ascii_Words.f kj29 (rdOf ByteArray.empty x6_19 x44_3) 37).bind fun t179 => (crossroadlaw06_PathPatterns.l0 kj29 t169 t170 ((t179.length : Int) == 1) x6_19 x7_3 x6_19 (x6_19.length : Int) (wrap64 (x44_3 + 1)))) else (crossroadlaw06_PathPatterns.l0 kj29 t169 t170 false x6_19 x7_3 x6_19 (x6_19.length : Int) (wrap64 (x44_3 + 1))))) = some r := by rw [if_pos rfl] at H; exact H
                                    clear H
                                    have H := H1
                                    clear H1
                                    replace H := Option.bind_eq_some_iff.mp H
                                    obtain ⟨t178, A490, H⟩ := H
                                    replace H : (if t178 = true then ((ascii_Words.f kj29 (rdOf ByteArray.empty x6_19 x44_3) 37).bind fun t179 => (crossroadlaw06_PathPatterns.l0 kj29 t169 t170 ((t179.length : Int) == 1) x6_19 x7_3 x6_19 (x6_19.length : Int) (wrap64 (x44_3 + 1)))) else (crossroadlaw06_PathPatterns.l0 kj29 t169 t170 false x6_19 x7_3 x6_19 (x6_19.length : Int) (wrap64 (x44_3 + 1)))) = some r := H
                                    have A49 := Aside0.mk A490
                                    clear A490
                                    by_cases c50 : t178 = true
                                    · subst c50
                                      have H1 : ((ascii_Words.f kj29 (rdOf ByteArray.empty x6_19 x44_3) 37).bind fun t179 => (crossroadlaw06_PathPatterns.l0 kj29 t169 t170 ((t179.length : Int) == 1) x6_19 x7_3 x6_19 (x6_19.length : Int) (wrap64 (x44_3 + 1)))) = some r := by rw [if_pos rfl] at H; exact H
                                      clear H
                                      have H := H1
                                      clear H1
                                      replace H := Option.bind_eq_some_iff.mp H
                                      obtain ⟨t179, A510, H⟩ := H
                                      replace H : (crossroadlaw06_PathPatterns.l0 kj29 t169 t170 ((t179.length : Int) == 1) x6_19 x7_3 x6_19 (x6_19.length : Int) (wrap64 (x44_3 + 1))) = some r := H
                                      have A51 := Aside0.mk A510
                                      clear A510
                                      have H' := Aside0.mk H
                                      clear H
                                      go_wp2_with (first | (at_lookup; (try (refine gate_guard (by rfl) ?_; dsimp only)); refine wpList_lookup_map_int (K := K30) (base := w.heap.size) z30 _ Try.underlying3 rfl _ _ 30 rfl Try.underlying30 _ ?hok rfl rfl (by (with_reducible repeat (first | apply MapOwn.alloc | apply MapOwn.drewN | apply MapOwn.drew)); exact HM.out) ?_; (case hok => show (ByteArray.size _) ≤ 9223372036854775807; first | assumption | exact of_decide_eq_true (by first | (with_reducible assumption) | assumption))) | (at_mapUpdate; (try (refine gate_guard (by rfl) ?_; dsimp only)); refine wpList_mapUpdate_map_int (K := K30) (base := w.heap.size) z30 Try.underlying3 _ rfl _ _ _ 30 rfl Try.underlying30 _ _ ?hok ?hel rfl rfl rfl (by (with_reducible repeat (first | apply MapOwn.alloc | apply MapOwn.drewN | apply MapOwn.drew)); exact HM.out) (by first | assumption | exact of_decide_eq_true (by first | (with_reducible assumption) | assumption)) ?_; (case hok => show (ByteArray.size _) ≤ 9223372036854775807; first | assumption | exact of_decide_eq_true (by first | (with_reducible assumption) | assumption)); (case hel => first | assumption | exact wrap64_wf _ | (refine WalkArith.wf_i64 ?_; omega)); intro wM_ hm_ hg_; have nO0_ := Aside0.mk (Kd.R_mapped (by (with_reducible repeat (first | apply Kd.R_alloc | apply Kd.R_drewN | apply Kd.R_drew)); exact HO_3.out) (by (with_reducible repeat (first | apply MapOwn.alloc | apply MapOwn.drewN | apply MapOwn.drew)); exact HM.out : MapOwn K30 E30 _ w.heap.size _ _) hg_); have nO1_ := Aside0.mk (Kd.R_mapped (by (with_reducible repeat (first | apply Kd.R_alloc | apply Kd.R_drewN | apply Kd.R_drew)); exact HO_6.out) (by (with_reducible repeat (first | apply MapOwn.alloc | apply MapOwn.drewN | apply MapOwn.drew)); exact HM.out : MapOwn K30 E30 _ w.heap.size _ _) hg_); have nO2_ := Aside0.mk (Kd.R_mapped (by (with_reducible repeat (first | apply Kd.R_alloc | apply Kd.R_drewN | apply Kd.R_drew)); exact HO_42.out) (by (with_reducible repeat (first | apply MapOwn.alloc | apply MapOwn.drewN | apply MapOwn.drew)); exact HM.out : MapOwn K30 E30 _ w.heap.size _ _) hg_); have nB_ := Aside0.mk (below_mapped (by repeat (first | (with_reducible first | exact HB.out | apply below_alloc | apply pw_below_drewN | apply below_drew1) | exact HB.out)) (by (with_reducible repeat (first | apply MapOwn.alloc | apply MapOwn.drewN | apply MapOwn.drew)); exact HM.out : MapOwn K30 E30 _ w.heap.size _ _) (Nat.le_refl _) hg_); clear HB HM HO_3 HO_6 HO_42; have HM := Aside0.mk hm_; have HB := nB_; clear nB_ hm_ hg_; have HO_3 := nO0_; clear nO0_; have HO_6 := nO1_; clear nO1_; have HO_42 := nO2_; clear nO2_) | (go_at_call 15; (with_reducible refine (ascii_Token.calls kj29 (rdOf ByteArray.empty x6_19 x44_3) true _ A49.out).mono ?_); rintro e w' ⟨rfl, ⟨nd, rfl⟩⟩; (try first | exact ⟨rfl, _, World.drewN_drewN _ _ _⟩ | exact ⟨rfl, _, Eq.trans (World.drewN_drewN _ _ _) (congrArg (World.drewN _) (Nat.add_assoc _ _ _))⟩)) | (go_at_call 14; (with_reducible refine (ascii_Words.calls kj29 (rdOf ByteArray.empty x6_19 x44_3) 37 t179 _ A51.out).mono ?_); rintro e w52 ⟨v180, rfl, ho0, hb⟩; (try (have nM_ := Aside0.mk (MapOwn.below (by (with_reducible repeat (first | apply MapOwn.alloc | apply MapOwn.drewN | apply MapOwn.drew)); exact HM.out) hb); clear HM; have HM := nM_; clear nM_)); have n0_ := Aside0.mk (Kd.R_elder' (by (with_reducible repeat (first | apply Kd.R_alloc | apply Kd.R_drewN | apply Kd.R_drew)); exact HO_3.out) (Kd.R_base ho0) hb); have n1_ := Aside0.mk (Kd.R_elder' (by (with_reducible repeat (first | apply Kd.R_alloc | apply Kd.R_drewN | apply Kd.R_drew)); exact HO_6.out) (Kd.R_base ho0) hb); have n2_ := Aside0.mk (Kd.R_elder' (by (with_reducible repeat (first | apply Kd.R_alloc | apply Kd.R_drewN | apply Kd.R_drew)); exact HO_42.out) (Kd.R_base ho0) hb); have n3_ := Aside0.mk (Kd.R_lower (Kd.R_new' (Kd.R_new' (Kd.R_new' ho0 (Kd.R_lt (by (with_reducible repeat (first | apply Kd.R_alloc | apply Kd.R_drewN | apply Kd.R_drew)); exact HO_3.out))) (Kd.R_lt (by (with_reducible repeat (first | apply Kd.R_alloc | apply Kd.R_drewN | apply Kd.R_drew)); exact HO_6.out))) (Kd.R_lt (by (with_reducible repeat (first | apply Kd.R_alloc | apply Kd.R_drewN | apply Kd.R_drew)); exact HO_42.out))) (below_size (by repeat (first | (with_reducible first | exact HB.out | apply below_alloc | apply pw_below_drewN | apply below_drew1) | exact HB.out)))); have n4_ := Aside0.mk (below_step (by repeat (first | (with_reducible first | exact HB.out | apply below_alloc | apply pw_below_drewN | apply below_drew1) | exact HB.out)) hb); clear HO_3; clear HO_6; clear HO_42; clear HB; have HO_3 := n0_; have HO_6 := n1_; have HO_42 := n2_; have HO181 := n3_; have HB := n4_; clear n0_ n1_ n2_ n3_ n4_; (try clear hb); (try clear hb2); (try clear hk); (try clear hi); (try clear ho0); obtain ⟨Ao53, co53, eo53⟩ := Kd.R_slice HO181.out; subst eo53))
                                      repeat (go_quiet (first | (go_at_call 15; (with_reducible refine (ascii_Token.calls kj29 (rdOf ByteArray.empty x6_19 x44_3) true _ A49.out).mono ?_); rintro e w' ⟨rfl, ⟨nd, rfl⟩⟩; (try first | exact ⟨rfl, _, World.drewN_drewN _ _ _⟩ | exact ⟨rfl, _, Eq.trans (World.drewN_drewN _ _ _) (congrArg (World.drewN _) (Nat.add_assoc _ _ _))⟩)) | (go_at_call 14; (with_reducible refine (ascii_Words.calls kj29 (rdOf ByteArray.empty x6_19 x44_3) 37 t179 _ A51.out).mono ?_); rintro e w52 ⟨v180, rfl, ho0, hb⟩; (try (have nM_ := Aside0.mk (MapOwn.below (by (with_reducible repeat (first | apply MapOwn.alloc | apply MapOwn.drewN | apply MapOwn.drew)); exact HM.out) hb); clear HM; have HM := nM_; clear nM_)); have n0_ := Aside0.mk (Kd.R_elder' (by (with_reducible repeat (first | apply Kd.R_alloc | apply Kd.R_drewN | apply Kd.R_drew)); exact HO_3.out) (Kd.R_base ho0) hb); have n1_ := Aside0.mk (Kd.R_elder' (by (with_reducible repeat (first | apply Kd.R_alloc | apply Kd.R_drewN | apply Kd.R_drew)); exact HO_6.out) (Kd.R_base ho0) hb); have n2_ := Aside0.mk (Kd.R_elder' (by (with_reducible repeat (first | apply Kd.R_alloc | apply Kd.R_drewN | apply Kd.R_drew)); exact HO_42.out) (Kd.R_base ho0) hb); have n3_ := Aside0.mk (Kd.R_lower (Kd.R_new' (Kd.R_new' (Kd.R_new' ho0 (Kd.R_lt (by (with_reducible repeat (first | apply Kd.R_alloc | apply Kd.R_drewN | apply Kd.R_drew)); exact HO_3.out))) (Kd.R_lt (by (with_reducible repeat (first | apply Kd.R_alloc | apply Kd.R_drewN | apply Kd.R_drew)); exact HO_6.out))) (Kd.R_lt (by (with_reducible repeat (first | apply Kd.R_alloc | apply Kd.R_drewN | apply Kd.R_drew)); exact HO_42.out))) (below_size (by repeat (first | (with_reducible first | exact HB.out | apply below_alloc | apply pw_below_drewN | apply below_drew1) | exact HB.out)))); have n4_ := Aside0.mk (below_step (by repeat (first | (with_reducible first | exact HB.out | apply below_alloc | apply pw_below_drewN | apply below_drew1) | exact HB.out)) hb); clear HO_3; clear HO_6; clear HO_42; clear HB; have HO_3 := n0_; have HO_6 := n1_; have HO_42 := n2_; have HO181 := n3_; have HB := n4_; clear n0_ n1_ n2_ n3_ n4_; (try clear hb); (try clear hb2); (try clear hk); (try clear hi); (try clear ho0); obtain ⟨Ao53, co53, eo53⟩ := Kd.R_slice HO181.out; subst eo53)); try go_wp2_with (first | (at_lookup; (try (refine gate_guard (by rfl) ?_; dsimp only)); refine wpList_lookup_map_int (K := K30) (base := w.heap.size) z30 _ Try.underlying3 rfl _ _ 30 rfl Try.underlying30 _ ?hok rfl rfl (by (with_reducible repeat (first | apply MapOwn.alloc | apply MapOwn.drewN | apply MapOwn.drew)); exact HM.out) ?_; (case hok => show (ByteArray.size _) ≤ 9223372036854775807; first | assumption | exact of_decide_eq_true (by first | (with_reducible assumption) | assumption))) | (at_mapUpdate; (try (refine gate_guard (by rfl) ?_; dsimp only)); refine wpList_mapUpdate_map_int (K := K30) (base := w.heap.size) z30 Try.underlying3 _ rfl _ _ _ 30 rfl Try.underlying30 _ _ ?hok ?hel rfl rfl rfl (by (with_reducible repeat (first | apply MapOwn.alloc | apply MapOwn.drewN | apply MapOwn.drew)); exact HM.out) (by first | assumption | exact of_decide_eq_true (by first | (with_reducible assumption) | assumption)) ?_; (case hok => show (ByteArray.size _) ≤ 9223372036854775807; first | assumption | exact of_decide_eq_true (by first | (with_reducible assumption) | assumption)); (case hel => first | assumption | exact wrap64_wf _ | (refine WalkArith.wf_i64 ?_; omega)); intro wM_ hm_ hg_; have nO0_ := Aside0.mk (Kd.R_mapped (by (with_reducible repeat (first | apply Kd.R_alloc | apply Kd.R_drewN | apply Kd.R_drew)); exact HO_3.out) (by (with_reducible repeat (first | apply MapOwn.alloc | apply MapOwn.drewN | apply MapOwn.drew)); exact HM.out : MapOwn K30 E30 _ w.heap.size _ _) hg_); have nO1_ := Aside0.mk (Kd.R_mapped (by (with_reducible repeat (first | apply Kd.R_alloc | apply Kd.R_drewN | apply Kd.R_drew)); exact HO_6.out) (by (with_reducible repeat (first | apply MapOwn.alloc | apply MapOwn.drewN | apply MapOwn.drew)); exact HM.out : MapOwn K30 E30 _ w.heap.size _ _) hg_); have nO2_ := Aside0.mk (Kd.R_mapped (by (with_reducible repeat (first | apply Kd.R_alloc | apply Kd.R_drewN | apply Kd.R_drew)); exact HO_42.out) (by (with_reducible repeat (first | apply MapOwn.alloc | apply MapOwn.drewN | apply MapOwn.drew)); exact HM.out : MapOwn K30 E30 _ w.heap.size _ _) hg_); have nB_ := Aside0.mk (below_mapped (by repeat (first | (with_reducible first | exact HB.out | apply below_alloc | apply pw_below_drewN | apply below_drew1) | exact HB.out)) (by (with_reducible repeat (first | apply MapOwn.alloc | apply MapOwn.drewN | apply MapOwn.drew)); exact HM.out : MapOwn K30 E30 _ w.heap.size _ _) (Nat.le_refl _) hg_); clear HB HM HO_3 HO_6 HO_42; have HM := Aside0.mk hm_; have HB := nB_; clear nB_ hm_ hg_; have HO_3 := nO0_; clear nO0_; have HO_6 := nO1_; clear nO1_; have HO_42 := nO2_; clear nO2_) | (go_at_call 15; (with_reducible refine (ascii_Token.calls kj29 (rdOf ByteArray.empty x6_19 x44_3) true _ A49.out).mono ?_); rintro e w' ⟨rfl, ⟨nd, rfl⟩⟩; (try first | exact ⟨rfl, _, World.drewN_drewN _ _ _⟩ | exact ⟨rfl, _, Eq.trans (World.drewN_drewN _ _ _) (congrArg (World.drewN _) (Nat.add_assoc _ _ _))⟩)) | (go_at_call 14; (with_reducible refine (ascii_Words.calls kj29 (rdOf ByteArray.empty x6_19 x44_3) 37 t179 _ A51.out).mono ?_); rintro e w52 ⟨v180, rfl, ho0, hb⟩; (try (have nM_ := Aside0.mk (MapOwn.below (by (with_reducible repeat (first | apply MapOwn.alloc | apply MapOwn.drewN | apply MapOwn.drew)); exact HM.out) hb); clear HM; have HM := nM_; clear nM_)); have n0_ := Aside0.mk (Kd.R_elder' (by (with_reducible repeat (first | apply Kd.R_alloc | apply Kd.R_drewN | apply Kd.R_drew)); exact HO_3.out) (Kd.R_base ho0) hb); have n1_ := Aside0.mk (Kd.R_elder' (by (with_reducible repeat (first | apply Kd.R_alloc | apply Kd.R_drewN | apply Kd.R_drew)); exact HO_6.out) (Kd.R_base ho0) hb); have n2_ := Aside0.mk (Kd.R_elder' (by (with_reducible repeat (first | apply Kd.R_alloc | apply Kd.R_drewN | apply Kd.R_drew)); exact HO_42.out) (Kd.R_base ho0) hb); have n3_ := Aside0.mk (Kd.R_lower (Kd.R_new' (Kd.R_new' (Kd.R_new' ho0 (Kd.R_lt (by (with_reducible repeat (first | apply Kd.R_alloc | apply Kd.R_drewN | apply Kd.R_drew)); exact HO_3.out))) (Kd.R_lt (by (with_reducible repeat (first | apply Kd.R_alloc | apply Kd.R_drewN | apply Kd.R_drew)); exact HO_6.out))) (Kd.R_lt (by (with_reducible repeat (first | apply Kd.R_alloc | apply Kd.R_drewN | apply Kd.R_drew)); exact HO_42.out))) (below_size (by repeat (first | (with_reducible first | exact HB.out | apply below_alloc | apply pw_below_drewN | apply below_drew1) | exact HB.out)))); have n4_ := Aside0.mk (below_step (by repeat (first | (with_reducible first | exact HB.out | apply below_alloc | apply pw_below_drewN | apply below_drew1) | exact HB.out)) hb); clear HO_3; clear HO_6; clear HO_42; clear HB; have HO_3 := n0_; have HO_6 := n1_; have HO_42 := n2_; have HO181 := n3_; have HB := n4_; clear n0_ n1_ n2_ n3_ n4_; (try clear hb); (try clear hb2); (try clear hk); (try clear hi); (try clear ho0); obtain ⟨Ao53, co53, eo53⟩ := Kd.R_slice HO181.out; subst eo53)))
                                      go_roundg kj29
                                      case measure => have := HJ13.out; have := HJ19.out; have := HK3.out; have := HJ29.out; omega
                                      case rel => exact ⟨(((t179.length : Int) == 1)), (x7_3), (wrap64 (x44_3 + 1)), (by first | rfl | (simp; done) | (simp [*]; done)), (by first | rfl | (simp; done) | (simp [*]; done)), H', ⟨by have := HJ13.out; have := HJ19.out; have := HK3.out; have := HJ29.out; omega⟩, ⟨by (with_reducible repeat (first | apply Kd.R_alloc | apply Kd.R_drewN | apply Kd.R_drew)); exact Kd.R_mono HO_3.out (fun _ hk => ⟨hk.1.1, hk.1.2⟩)⟩, ⟨by (with_reducible repeat (first | apply Kd.R_alloc | apply Kd.R_drewN | apply Kd.R_drew)); exact Kd.R_mono HO_6.out (fun _ hk => hk.1)⟩, ⟨by (with_reducible repeat (first | apply Kd.R_alloc | apply Kd.R_drewN | apply Kd.R_drew)); exact Kd.R_mono HO_42.out (fun _ hk => hk.1)⟩, ⟨by (with_reducible repeat (first | apply MapOwn.alloc | apply MapOwn.drewN | apply MapOwn.drew)); exact HM.out⟩, ⟨by repeat (first | (with_reducible first | exact HB.out | apply below_alloc | apply pw_below_drewN | apply below_drew1) | exact HB.out)⟩⟩
                                    · replace c50 := Bool.eq_false_iff.mpr c50
                                      subst c50
                                      have H1 : (crossroadlaw06_PathPatterns.l0 kj29 t169 t170 false x6_19 x7_3 x6_19 (x6_19.length : Int) (wrap64 (x44_3 + 1))) = some r := by rw [if_neg (show ¬ (false = true) by decide)] at H; exact H
                                      clear H
                                      have H := H1
                                      clear H1
                                      have H' := Aside0.mk H
                                      clear H
                                      go_wp2_with (first | (at_lookup; (try (refine gate_guard (by rfl) ?_; dsimp only)); refine wpList_lookup_map_int (K := K30) (base := w.heap.size) z30 _ Try.underlying3 rfl _ _ 30 rfl Try.underlying30 _ ?hok rfl rfl (by (with_reducible repeat (first | apply MapOwn.alloc | apply MapOwn.drewN | apply MapOwn.drew)); exact HM.out) ?_; (case hok => show (ByteArray.size _) ≤ 9223372036854775807; first | assumption | exact of_decide_eq_true (by first | (with_reducible assumption) | assumption))) | (at_mapUpdate; (try (refine gate_guard (by rfl) ?_; dsimp only)); refine wpList_mapUpdate_map_int (K := K30) (base := w.heap.size) z30 Try.underlying3 _ rfl _ _ _ 30 rfl Try.underlying30 _ _ ?hok ?hel rfl rfl rfl (by (with_reducible repeat (first | apply MapOwn.alloc | apply MapOwn.drewN | apply MapOwn.drew)); exact HM.out) (by first | assumption | exact of_decide_eq_true (by first | (with_reducible assumption) | assumption)) ?_; (case hok => show (ByteArray.size _) ≤ 9223372036854775807; first | assumption | exact of_decide_eq_true (by first | (with_reducible assumption) | assumption)); (case hel => first | assumption | exact wrap64_wf _ | (refine WalkArith.wf_i64 ?_; omega)); intro wM_ hm_ hg_; have nO0_ := Aside0.mk (Kd.R_mapped (by (with_reducible repeat (first | apply Kd.R_alloc | apply Kd.R_drewN | apply Kd.R_drew)); exact HO_3.out) (by (with_reducible repeat (first | apply MapOwn.alloc | apply MapOwn.drewN | apply MapOwn.drew)); exact HM.out : MapOwn K30 E30 _ w.heap.size _ _) hg_); have nO1_ := Aside0.mk (Kd.R_mapped (by (with_reducible repeat (first | apply Kd.R_alloc | apply Kd.R_drewN | apply Kd.R_drew)); exact HO_6.out) (by (with_reducible repeat (first | apply MapOwn.alloc | apply MapOwn.drewN | apply MapOwn.drew)); exact HM.out : MapOwn K30 E30 _ w.heap.size _ _) hg_); have nO2_ := Aside0.mk (Kd.R_mapped (by (with_reducible repeat (first | apply Kd.R_alloc | apply Kd.R_drewN | apply Kd.R_drew)); exact HO_42.out) (by (with_reducible repeat (first | apply MapOwn.alloc | apply MapOwn.drewN | apply MapOwn.drew)); exact HM.out : MapOwn K30 E30 _ w.heap.size _ _) hg_); have nB_ := Aside0.mk (below_mapped (by repeat (first | (with_reducible first | exact HB.out | apply below_alloc | apply pw_below_drewN | apply below_drew1) | exact HB.out)) (by (with_reducible repeat (first | apply MapOwn.alloc | apply MapOwn.drewN | apply MapOwn.drew)); exact HM.out : MapOwn K30 E30 _ w.heap.size _ _) (Nat.le_refl _) hg_); clear HB HM HO_3 HO_6 HO_42; have HM := Aside0.mk hm_; have HB := nB_; clear nB_ hm_ hg_; have HO_3 := nO0_; clear nO0_; have HO_6 := nO1_; clear nO1_; have HO_42 := nO2_; clear nO2_) | (go_at_call 15; (with_reducible refine (ascii_Token.calls kj29 (rdOf ByteArray.empty x6_19 x44_3) false _ A49.out).mono ?_); rintro e w' ⟨rfl, ⟨nd, rfl⟩⟩; (try first | exact ⟨rfl, _, World.drewN_drewN _ _ _⟩ | exact ⟨rfl, _, Eq.trans (World.drewN_drewN _ _ _) (congrArg (World.drewN _) (Nat.add_assoc _ _ _))⟩)))
                                      repeat (go_quiet (first | (go_at_call 15; (with_reducible refine (ascii_Token.calls kj29 (rdOf ByteArray.empty x6_19 x44_3) false _ A49.out).mono ?_); rintro e w' ⟨rfl, ⟨nd, rfl⟩⟩; (try first | exact ⟨rfl, _, World.drewN_drewN _ _ _⟩ | exact ⟨rfl, _, Eq.trans (World.drewN_drewN _ _ _) (congrArg (World.drewN _) (Nat.add_assoc _ _ _))⟩))); try go_wp2_with (first | (at_lookup; (try (refine gate_guard (by rfl) ?_; dsimp only)); refine wpList_lookup_map_int (K := K30) (base := w.heap.size) z30 _ Try.underlying3 rfl _ _ 30 rfl Try.underlying30 _ ?hok rfl rfl (by (with_reducible repeat (first | apply MapOwn.alloc | apply MapOwn.drewN | apply MapOwn.drew)); exact HM.out) ?_; (case hok => show (ByteArray.size _) ≤ 9223372036854775807; first | assumption | exact of_decide_eq_true (by first | (with_reducible assumption) | assumption))) | (at_mapUpdate; (try (refine gate_guard (by rfl) ?_; dsimp only)); refine wpList_mapUpdate_map_int (K := K30) (base := w.heap.size) z30 Try.underlying3 _ rfl _ _ _ 30 rfl Try.underlying30 _ _ ?hok ?hel rfl rfl rfl (by (with_reducible repeat (first | apply MapOwn.alloc | apply MapOwn.drewN | apply MapOwn.drew)); exact HM.out) (by first | assumption | exact of_decide_eq_true (by first | (with_reducible assumption) | assumption)) ?_; (case hok => show (ByteArray.size _) ≤ 9223372036854775807; first | assumption | exact of_decide_eq_true (by first | (with_reducible assumption) | assumption)); (case hel => first | assumption | exact wrap64_wf _ | (refine WalkArith.wf_i64 ?_; omega)); intro wM_ hm_ hg_; have nO0_ := Aside0.mk (Kd.R_mapped (by (with_reducible repeat (first | apply Kd.R_alloc | apply Kd.R_drewN | apply Kd.R_drew)); exact HO_3.out) (by (with_reducible repeat (first | apply MapOwn.alloc | apply MapOwn.drewN | apply MapOwn.drew)); exact HM.out : MapOwn K30 E30 _ w.heap.size _ _) hg_); have nO1_ := Aside0.mk (Kd.R_mapped (by (with_reducible repeat (first | apply Kd.R_alloc | apply Kd.R_drewN | apply Kd.R_drew)); exact HO_6.out) (by (with_reducible repeat (first | apply MapOwn.alloc | apply MapOwn.drewN | apply MapOwn.drew)); exact HM.out : MapOwn K30 E30 _ w.heap.size _ _) hg_); have nO2_ := Aside0.mk (Kd.R_mapped (by (with_reducible repeat (first | apply Kd.R_alloc | apply Kd.R_drewN | apply Kd.R_drew)); exact HO_42.out) (by (with_reducible repeat (first | apply MapOwn.alloc | apply MapOwn.drewN | apply MapOwn.drew)); exact HM.out : MapOwn K30 E30 _ w.heap.size _ _) hg_); have nB_ := Aside0.mk (below_mapped (by repeat (first | (with_reducible first | exact HB.out | apply below_alloc | apply pw_below_drewN | apply below_drew1) | exact HB.out)) (by (with_reducible repeat (first | apply MapOwn.alloc | apply MapOwn.drewN | apply MapOwn.drew)); exact HM.out : MapOwn K30 E30 _ w.heap.size _ _) (Nat.le_refl _) hg_); clear HB HM HO_3 HO_6 HO_42; have HM := Aside0.mk hm_; have HB := nB_; clear nB_ hm_ hg_; have HO_3 := nO0_; clear nO0_; have HO_6 := nO1_; clear nO1_; have HO_42 := nO2_; clear nO2_) | (go_at_call 15; (with_reducible refine (ascii_Token.calls kj29 (rdOf ByteArray.empty x6_19 x44_3) false _ A49.out).mono ?_); rintro e w' ⟨rfl, ⟨nd, rfl⟩⟩; (try first | exact ⟨rfl, _, World.drewN_drewN _ _ _⟩ | exact ⟨rfl, _, Eq.trans (World.drewN_drewN _ _ _) (congrArg (World.drewN _) (Nat.add_assoc _ _ _))⟩))))
                                      go_roundg kj29
                                      case measure => have := HJ13.out; have := HJ19.out; have := HK3.out; have := HJ29.out; omega
                                      case rel => exact ⟨(false), (x7_3), (wrap64 (x44_3 + 1)), (by first | rfl | (simp; done) | (simp [*]; done)), (by first | rfl | (simp; done) | (simp [*]; done)), H', ⟨by have := HJ13.out; have := HJ19.out; have := HK3.out; have := HJ29.out; omega⟩, ⟨by (with_reducible repeat (first | apply Kd.R_alloc | apply Kd.R_drewN | apply Kd.R_drew)); exact HO_3.out⟩, ⟨by (with_reducible repeat (first | apply Kd.R_alloc | apply Kd.R_drewN | apply Kd.R_drew)); exact HO_6.out⟩, ⟨by (with_reducible repeat (first | apply Kd.R_alloc | apply Kd.R_drewN | apply Kd.R_drew)); exact HO_42.out⟩, ⟨by (with_reducible repeat (first | apply MapOwn.alloc | apply MapOwn.drewN | apply MapOwn.drew)); exact HM.out⟩, ⟨by repeat (first | (with_reducible first | exact HB.out | apply below_alloc | apply pw_below_drewN | apply below_drew1) | exact HB.out)⟩⟩
                                  · replace c48 := Bool.eq_false_iff.mpr c48
                                    subst c48
                                    have H1 : (crossroadlaw06_PathPatterns.l0 kj29 t169 t170 false x6_19 x7_3 x6_19 (x6_19.length : Int) (wrap64 (x44_3 + 1))) = some r := by rw [if_neg (show ¬ (false = true) by decide)] at H; exact H
                                    clear H
                                    have H := H1
                                    clear H1
                                    have H' := Aside0.mk H
                                    clear H
                                    go_wp2_with (first | (at_lookup; (try (refine gate_guard (by rfl) ?_; dsimp only)); refine wpList_lookup_map_int (K := K30) (base := w.heap.size) z30 _ Try.underlying3 rfl _ _ 30 rfl Try.underlying30 _ ?hok rfl rfl (by (with_reducible repeat (first | apply MapOwn.alloc | apply MapOwn.drewN | apply MapOwn.drew)); exact HM.out) ?_; (case hok => show (ByteArray.size _) ≤ 9223372036854775807; first | assumption | exact of_decide_eq_true (by first | (with_reducible assumption) | assumption))) | (at_mapUpdate; (try (refine gate_guard (by rfl) ?_; dsimp only)); refine wpList_mapUpdate_map_int (K := K30) (base := w.heap.size) z30 Try.underlying3 _ rfl _ _ _ 30 rfl Try.underlying30 _ _ ?hok ?hel rfl rfl rfl (by (with_reducible repeat (first | apply MapOwn.alloc | apply MapOwn.drewN | apply MapOwn.drew)); exact HM.out) (by first | assumption | exact of_decide_eq_true (by first | (with_reducible assumption) | assumption)) ?_; (case hok => show (ByteArray.size _) ≤ 9223372036854775807; first | assumption | exact of_decide_eq_true (by first | (with_reducible assumption) | assumption)); (case hel => first | assumption | exact wrap64_wf _ | (refine WalkArith.wf_i64 ?_; omega)); intro wM_ hm_ hg_; have nO0_ := Aside0.mk (Kd.R_mapped (by (with_reducible repeat (first | apply Kd.R_alloc | apply Kd.R_drewN | apply Kd.R_drew)); exact HO_3.out) (by (with_reducible repeat (first | apply MapOwn.alloc | apply MapOwn.drewN | apply MapOwn.drew)); exact HM.out : MapOwn K30 E30 _ w.heap.size _ _) hg_); have nO1_ := Aside0.mk (Kd.R_mapped (by (with_reducible repeat (first | apply Kd.R_alloc | apply Kd.R_drewN | apply Kd.R_drew)); exact HO_6.out) (by (with_reducible repeat (first | apply MapOwn.alloc | apply MapOwn.drewN | apply MapOwn.drew)); exact HM.out : MapOwn K30 E30 _ w.heap.size _ _) hg_); have nO2_ := Aside0.mk (Kd.R_mapped (by (with_reducible repeat (first | apply Kd.R_alloc | apply Kd.R_drewN | apply Kd.R_drew)); exact HO_42.out) (by (with_reducible repeat (first | apply MapOwn.alloc | apply MapOwn.drewN | apply MapOwn.drew)); exact HM.out : MapOwn K30 E30 _ w.heap.size _ _) hg_); have nB_ := Aside0.mk (below_mapped (by repeat (first | (with_reducible first | exact HB.out | apply below_alloc | apply pw_below_drewN | apply below_drew1) | exact HB.out)) (by (with_reducible repeat (first | apply MapOwn.alloc | apply MapOwn.drewN | apply MapOwn.drew)); exact HM.out : MapOwn K30 E30 _ w.heap.size _ _) (Nat.le_refl _) hg_); clear HB HM HO_3 HO_6 HO_42; have HM := Aside0.mk hm_; have HB := nB_; clear nB_ hm_ hg_; have HO_3 := nO0_; clear nO0_; have HO_6 := nO1_; clear nO1_; have HO_42 := nO2_; clear nO2_))
                                    repeat (go_quiet (fail); try go_wp2)
                                    go_roundg kj29
                                    case measure => have := HJ13.out; have := HJ19.out; have := HK3.out; have := HJ29.out; omega
                                    case rel => exact ⟨(false), (x7_3), (wrap64 (x44_3 + 1)), (by first | rfl | (simp; done) | (simp [*]; done)), (by first | rfl | (simp; done) | (simp [*]; done)), H', ⟨by have := HJ13.out; have := HJ19.out; have := HK3.out; have := HJ29.out; omega⟩, ⟨by (with_reducible repeat (first | apply Kd.R_alloc | apply Kd.R_drewN | apply Kd.R_drew)); exact HO_3.out⟩, ⟨by (with_reducible repeat (first | apply Kd.R_alloc | apply Kd.R_drewN | apply Kd.R_drew)); exact HO_6.out⟩, ⟨by (with_reducible repeat (first | apply Kd.R_alloc | apply Kd.R_drewN | apply Kd.R_drew)); exact HO_42.out⟩, ⟨by (with_reducible repeat (first | apply MapOwn.alloc | apply MapOwn.drewN | apply MapOwn.drew)); exact HM.out⟩, ⟨by repeat (first | (with_reducible first | exact HB.out | apply below_alloc | apply pw_below_drewN | apply below_drew1) | exact HB.out)⟩⟩
                        · rw [if_neg c28] at H
                          exact absurd H (by simp)
                      · rw [if_neg c27] at H
                        exact absurd H (by simp)
                    · rw [if_neg c26] at H
                      have c26b0 : decide (x44_3 < (x6_19.length : Int)) = false := decide_eq_false c26
                      clear c26
                      have HC54 := Aside0.mk H
                      clear H
                      go_upto_region 23 with (fail)
                      repeat (go_quiet (fail); go_upto_region 23 with (fail))
                      go_cut [5] (fun v5 wc => ∃ (kq : Nat) (x5_53 : Bool), v5 = .bool x5_53 ∧ Aside0 (crossroadlaw06_PathPatterns.j4 kq t169 t170 x5_53 x6_19 = some r) ∧ Aside0 (kq ≤ k3) ∧ Aside0 (Kd.R Kd.string 9 wc w.heap.size (fun k_ => some k_ ≠ ((.slice Ao25 x6_19.length co25) : Value).ownBlock) v171 t169) ∧ Aside0 (Kd.R Kd.string 9 wc w.heap.size (fun k_ => some k_ ≠ (v171 : Value).ownBlock) (.slice Ao25 x6_19.length co25) x6_19) ∧ Aside0 (Below w.heap.size w wc))
                      case first =>
                        have H := HC54.out
                        clear HC54
                        by_cases c55 : x5_3 = true
                        · subst c55
                          have H1 : (crossroadlaw06_PathPatterns.j4 k3 t169 t170 (decide ((x6_19.length : Int) ≤ 8)) x6_19) = some r := by rw [if_pos rfl] at H; exact H
                          clear H
                          have H := H1
                          clear H1
                          have H' := Aside0.mk H
                          clear H
                          go_wp2_with (first | (at_lookup; (try (refine gate_guard (by rfl) ?_; dsimp only)); refine wpList_lookup_map_int (K := K30) (base := w.heap.size) z30 _ Try.underlying3 rfl _ _ 30 rfl Try.underlying30 _ ?hok rfl rfl (by (with_reducible repeat (first | apply MapOwn.alloc | apply MapOwn.drewN | apply MapOwn.drew)); exact HM.out) ?_; (case hok => show (ByteArray.size _) ≤ 9223372036854775807; first | assumption | exact of_decide_eq_true (by first | (with_reducible assumption) | assumption))) | (at_mapUpdate; (try (refine gate_guard (by rfl) ?_; dsimp only)); refine wpList_mapUpdate_map_int (K := K30) (base := w.heap.size) z30 Try.underlying3 _ rfl _ _ _ 30 rfl Try.underlying30 _ _ ?hok ?hel rfl rfl rfl (by (with_reducible repeat (first | apply MapOwn.alloc | apply MapOwn.drewN | apply MapOwn.drew)); exact HM.out) (by first | assumption | exact of_decide_eq_true (by first | (with_reducible assumption) | assumption)) ?_; (case hok => show (ByteArray.size _) ≤ 9223372036854775807; first | assumption | exact of_decide_eq_true (by first | (with_reducible assumption) | assumption)); (case hel => first | assumption | exact wrap64_wf _ | (refine WalkArith.wf_i64 ?_; omega)); intro wM_ hm_ hg_; have nO0_ := Aside0.mk (Kd.R_mapped (by (with_reducible repeat (first | apply Kd.R_alloc | apply Kd.R_drewN | apply Kd.R_drew)); exact HO_3.out) (by (with_reducible repeat (first | apply MapOwn.alloc | apply MapOwn.drewN | apply MapOwn.drew)); exact HM.out : MapOwn K30 E30 _ w.heap.size _ _) hg_); have nO1_ := Aside0.mk (Kd.R_mapped (by (with_reducible repeat (first | apply Kd.R_alloc | apply Kd.R_drewN | apply Kd.R_drew)); exact HO_6.out) (by (with_reducible repeat (first | apply MapOwn.alloc | apply MapOwn.drewN | apply MapOwn.drew)); exact HM.out : MapOwn K30 E30 _ w.heap.size _ _) hg_); have nO2_ := Aside0.mk (Kd.R_mapped (by (with_reducible repeat (first | apply Kd.R_alloc | apply Kd.R_drewN | apply Kd.R_drew)); exact HO_42.out) (by (with_reducible repeat (first | apply MapOwn.alloc | apply MapOwn.drewN | apply MapOwn.drew)); exact HM.out : MapOwn K30 E30 _ w.heap.size _ _) hg_); have nB_ := Aside0.mk (below_mapped (by repeat (first | (with_reducible first | exact HB.out | apply below_alloc | apply pw_below_drewN | apply below_drew1) | exact HB.out)) (by (with_reducible repeat (first | apply MapOwn.alloc | apply MapOwn.drewN | apply MapOwn.drew)); exact HM.out : MapOwn K30 E30 _ w.heap.size _ _) (Nat.le_refl _) hg_); clear HB HM HO_3 HO_6 HO_42; have HM := Aside0.mk hm_; have HB := nB_; clear nB_ hm_ hg_; have HO_3 := nO0_; clear nO0_; have HO_6 := nO1_; clear nO1_; have HO_42 := nO2_; clear nO2_))
                          repeat (go_quiet (fail); try go_wp2)
                          go_meet
                          case rel => exact ⟨_, (decide ((x6_19.length : Int) ≤ 8)), (by first | rfl | (simp; done) | (simp [*]; done)), H', ⟨by have := HJ13.out; have := HJ19.out; have := HK3.out; first | omega | exact Nat.le_refl _⟩, ⟨by (with_reducible repeat (first | apply Kd.R_alloc | apply Kd.R_drewN | apply Kd.R_drew)); exact Kd.R_mono HO_3.out (fun _ hk => hk.1)⟩, ⟨by (with_reducible repeat (first | apply Kd.R_alloc | apply Kd.R_drewN | apply Kd.R_drew)); exact HO_6.out⟩, ⟨by repeat (first | (with_reducible first | exact HB.out | apply below_alloc | apply pw_below_drewN | apply below_drew1) | exact HB.out)⟩⟩
                        · replace c55 := Bool.eq_false_iff.mpr c55
                          subst c55
                          have H1 : (crossroadlaw06_PathPatterns.j4 k3 t169 t170 false x6_19) = some r := by rw [if_neg (show ¬ (false = true) by decide)] at H; exact H
                          clear H
                          have H := H1
                          clear H1
                          have H' := Aside0.mk H
                          clear H
                          go_wp2_with (first | (at_lookup; (try (refine gate_guard (by rfl) ?_; dsimp only)); refine wpList_lookup_map_int (K := K30) (base := w.heap.size) z30 _ Try.underlying3 rfl _ _ 30 rfl Try.underlying30 _ ?hok rfl rfl (by (with_reducible repeat (first | apply MapOwn.alloc | apply MapOwn.drewN | apply MapOwn.drew)); exact HM.out) ?_; (case hok => show (ByteArray.size _) ≤ 9223372036854775807; first | assumption | exact of_decide_eq_true (by first | (with_reducible assumption) | assumption))) | (at_mapUpdate; (try (refine gate_guard (by rfl) ?_; dsimp only)); refine wpList_mapUpdate_map_int (K := K30) (base := w.heap.size) z30 Try.underlying3 _ rfl _ _ _ 30 rfl Try.underlying30 _ _ ?hok ?hel rfl rfl rfl (by (with_reducible repeat (first | apply MapOwn.alloc | apply MapOwn.drewN | apply MapOwn.drew)); exact HM.out) (by first | assumption | exact of_decide_eq_true (by first | (with_reducible assumption) | assumption)) ?_; (case hok => show (ByteArray.size _) ≤ 9223372036854775807; first | assumption | exact of_decide_eq_true (by first | (with_reducible assumption) | assumption)); (case hel => first | assumption | exact wrap64_wf _ | (refine WalkArith.wf_i64 ?_; omega)); intro wM_ hm_ hg_; have nO0_ := Aside0.mk (Kd.R_mapped (by (with_reducible repeat (first | apply Kd.R_alloc | apply Kd.R_drewN | apply Kd.R_drew)); exact HO_3.out) (by (with_reducible repeat (first | apply MapOwn.alloc | apply MapOwn.drewN | apply MapOwn.drew)); exact HM.out : MapOwn K30 E30 _ w.heap.size _ _) hg_); have nO1_ := Aside0.mk (Kd.R_mapped (by (with_reducible repeat (first | apply Kd.R_alloc | apply Kd.R_drewN | apply Kd.R_drew)); exact HO_6.out) (by (with_reducible repeat (first | apply MapOwn.alloc | apply MapOwn.drewN | apply MapOwn.drew)); exact HM.out : MapOwn K30 E30 _ w.heap.size _ _) hg_); have nO2_ := Aside0.mk (Kd.R_mapped (by (with_reducible repeat (first | apply Kd.R_alloc | apply Kd.R_drewN | apply Kd.R_drew)); exact HO_42.out) (by (with_reducible repeat (first | apply MapOwn.alloc | apply MapOwn.drewN | apply MapOwn.drew)); exact HM.out : MapOwn K30 E30 _ w.heap.size _ _) hg_); have nB_ := Aside0.mk (below_mapped (by repeat (first | (with_reducible first | exact HB.out | apply below_alloc | apply pw_below_drewN | apply below_drew1) | exact HB.out)) (by (with_reducible repeat (first | apply MapOwn.alloc | apply MapOwn.drewN | apply MapOwn.drew)); exact HM.out : MapOwn K30 E30 _ w.heap.size _ _) (Nat.le_refl _) hg_); clear HB HM HO_3 HO_6 HO_42; have HM := Aside0.mk hm_; have HB := nB_; clear nB_ hm_ hg_; have HO_3 := nO0_; clear nO0_; have HO_6 := nO1_; clear nO1_; have HO_42 := nO2_; clear nO2_))
                          repeat (go_quiet (fail); try go_wp2)
                          go_meet
                          case rel => exact ⟨_, (false), (by first | rfl | (simp; done) | (simp [*]; done)), H', ⟨by have := HJ13.out; have := HJ19.out; have := HK3.out; first | omega | exact Nat.le_refl _⟩, ⟨by (with_reducible repeat (first | apply Kd.R_alloc | apply Kd.R_drewN | apply Kd.R_drew)); exact Kd.R_mono HO_3.out (fun _ hk => hk.1)⟩, ⟨by (with_reducible repeat (first | apply Kd.R_alloc | apply Kd.R_drewN | apply Kd.R_drew)); exact HO_6.out⟩, ⟨by repeat (first | (with_reducible first | exact HB.out | apply below_alloc | apply pw_below_drewN | apply below_drew1) | exact HB.out)⟩⟩
                      case rest =>
                        clear HC54
                        try clear c1
                        try clear p1
                        try clear q1
                        try clear hx1
                        try clear qi1
                        try clear c2
                        try clear p2
                        try clear c3
                        try clear p3
                        try clear q3
                        try clear hx3
                        try clear qi3
                        try clear c4
                        try clear p4
                        try clear q4
                        try clear hx4
                        try clear qi4
                        try clear c5
                        try clear p6
                        try clear c7
                        try clear c7b0
                        try clear c7b1
                        try clear c8
                        try clear c17
                        try clear c17b0
                        try clear c17b1
                        try clear p17
                        try clear q17
                        try clear hx17
                        try clear c18
                        try clear c18b0
                        try clear c18b1
                        try clear p19
                        try clear q19
                        try clear hx19
                        try clear qi19
                        try clear c21
                        try clear c22
                        try clear c22b0
                        try clear c22b1
                        try clear c26
                        try clear c26b0
                        try clear c27
                        try clear c27b0
                        try clear c28
                        try clear c28b0
                        try clear c29
                        try clear c29b0
                        try clear c29b1
                        try clear c31
                        try clear c31b0
                        try clear c31b1
                        try clear p32
                        try clear q32
                        try clear hx32
                        try clear qi32
                        try clear c33
                        try clear c33b0
                        try clear c33b1
                        try clear p34
                        try clear q34
                        try clear hx34
                        try clear qi34
                        try clear c35
                        try clear c36
                        try clear c36b0
                        try clear c36b1
                        try clear c37
                        try clear c37b0
                        try clear c37b1
                        try clear c37b2
                        try clear c38
                        try clear c38b0
                        try clear c38b1
                        try clear c39
                        try clear c40
                        try clear c40b0
                        try clear c42
                        try clear c43
                        try clear c43b0
                        try clear c44
                        try clear c44b0
                        try clear c44b1
                        try clear c45
                        try clear c45b0
                        try clear c45b1
                        try clear p46
                        try clear q46
                        try clear hx46
                        try clear qi46
                        try clear c47
                        try clear c47b0
                        try clear c47b1
                        try clear c48
                        try clear c50
                        try clear c55
                        try clear hx176_0
                        try clear p1
                        try clear p17
                        try clear p176
                        try clear p19
                        try clear p2
                        try clear p3
                        try clear p32
                        try clear p34
                        try clear p46
                        try clear p6
                        try clear q1
                        try clear q17
                        try clear q176
                        try clear q19
                        try clear q3
                        try clear q32
                        try clear q34
                        try clear q46
                        obtain ⟨kq, x5_53, rfl, HA, HJ53, HO_3, HO_6, HB⟩ := hcut
                        cases kq with
                        | zero => exact absurd HA.out (by simp [crossroadlaw06_PathPatterns.j4])
                        | succ kj53 =>
                          have H := HA.out
                          clear HA
                          simp only [crossroadlaw06_PathPatterns.j4] at H
                          by_cases c56 : (t170 != x5_53) = true
                          · rw [if_pos c56] at H
                            have c56b0 : (t170 != x5_53) = true := c56
                            (try (have c56b1 : decide (t170 = x5_53) = false := by simpa using c56))
                            (try (have c56b2 : (t170 == x5_53) = false := by simpa using c56))
                            (try (have c56b3 : ¬ (t170 = x5_53) := by simpa using c56))
                            clear c56
                            obtain rfl := Option.some.inj H
                            go_wp2_with (first | (at_lookup; (try (refine gate_guard (by rfl) ?_; dsimp only)); refine wpList_lookup_map_int (K := K30) (base := w.heap.size) z30 _ Try.underlying3 rfl _ _ 30 rfl Try.underlying30 _ ?hok rfl rfl (by (with_reducible repeat (first | apply MapOwn.alloc | apply MapOwn.drewN | apply MapOwn.drew)); exact HM.out) ?_; (case hok => show (ByteArray.size _) ≤ 9223372036854775807; first | assumption | exact of_decide_eq_true (by first | (with_reducible assumption) | assumption))) | (at_mapUpdate; (try (refine gate_guard (by rfl) ?_; dsimp only)); refine wpList_mapUpdate_map_int (K := K30) (base := w.heap.size) z30 Try.underlying3 _ rfl _ _ _ 30 rfl Try.underlying30 _ _ ?hok ?hel rfl rfl rfl (by (with_reducible repeat (first | apply MapOwn.alloc | apply MapOwn.drewN | apply MapOwn.drew)); exact HM.out) (by first | assumption | exact of_decide_eq_true (by first | (with_reducible assumption) | assumption)) ?_; (case hok => show (ByteArray.size _) ≤ 9223372036854775807; first | assumption | exact of_decide_eq_true (by first | (with_reducible assumption) | assumption)); (case hel => first | assumption | exact wrap64_wf _ | (refine WalkArith.wf_i64 ?_; omega)); intro wM_ hm_ hg_; have nO0_ := Aside0.mk (Kd.R_mapped (by (with_reducible repeat (first | apply Kd.R_alloc | apply Kd.R_drewN | apply Kd.R_drew)); exact HO_3.out) (by (with_reducible repeat (first | apply MapOwn.alloc | apply MapOwn.drewN | apply MapOwn.drew)); exact HM.out : MapOwn K30 E30 _ w.heap.size _ _) hg_); have nO1_ := Aside0.mk (Kd.R_mapped (by (with_reducible repeat (first | apply Kd.R_alloc | apply Kd.R_drewN | apply Kd.R_drew)); exact HO_6.out) (by (with_reducible repeat (first | apply MapOwn.alloc | apply MapOwn.drewN | apply MapOwn.drew)); exact HM.out : MapOwn K30 E30 _ w.heap.size _ _) hg_); have nB_ := Aside0.mk (below_mapped (by repeat (first | (with_reducible first | exact HB.out | apply below_alloc | apply pw_below_drewN | apply below_drew1) | exact HB.out)) (by (with_reducible repeat (first | apply MapOwn.alloc | apply MapOwn.drewN | apply MapOwn.drew)); exact HM.out : MapOwn K30 E30 _ w.heap.size _ _) (Nat.le_refl _) hg_); clear HB HM HO_3 HO_6; have HM := Aside0.mk hm_; have HB := nB_; clear nB_ hm_ hg_; have HO_3 := nO0_; clear nO0_; have HO_6 := nO1_; clear nO1_))
                            repeat (go_quiet (fail); try go_wp2)
                            go_ret
                            exact ⟨by first | rfl | (simp [errW_none, errW_some] <;> rfl) | (simp [*, errW_none, errW_some] <;> rfl), by repeat (first | (with_reducible first | exact HB.out | apply below_alloc | apply pw_below_drewN | apply below_drew1) | exact HB.out)⟩
                          · rw [if_neg c56] at H
                            have c56b0 : (t170 != x5_53) = false := by simpa using c56
                            (try (have c56b1 : decide (t170 = x5_53) = true := by simpa using c56))
                            (try (have c56b2 : (t170 == x5_53) = true := by simpa using c56))
                            clear c56
                            have H' := Aside0.mk H
                            clear H
                            obtain ⟨Ao57, co57, eo57⟩ := Kd.R_slice HO_3.out
                            subst eo57
                            go_wp2_with (first | (at_lookup; (try (refine gate_guard (by rfl) ?_; dsimp only)); refine wpList_lookup_map_int (K := K30) (base := w.heap.size) z30 _ Try.underlying3 rfl _ _ 30 rfl Try.underlying30 _ ?hok rfl rfl (by (with_reducible repeat (first | apply MapOwn.alloc | apply MapOwn.drewN | apply MapOwn.drew)); exact HM.out) ?_; (case hok => show (ByteArray.size _) ≤ 9223372036854775807; first | assumption | exact of_decide_eq_true (by first | (with_reducible assumption) | assumption))) | (at_mapUpdate; (try (refine gate_guard (by rfl) ?_; dsimp only)); refine wpList_mapUpdate_map_int (K := K30) (base := w.heap.size) z30 Try.underlying3 _ rfl _ _ _ 30 rfl Try.underlying30 _ _ ?hok ?hel rfl rfl rfl (by (with_reducible repeat (first | apply MapOwn.alloc | apply MapOwn.drewN | apply MapOwn.drew)); exact HM.out) (by first | assumption | exact of_decide_eq_true (by first | (with_reducible assumption) | assumption)) ?_; (case hok => show (ByteArray.size _) ≤ 9223372036854775807; first | assumption | exact of_decide_eq_true (by first | (with_reducible assumption) | assumption)); (case hel => first | assumption | exact wrap64_wf _ | (refine WalkArith.wf_i64 ?_; omega)); intro wM_ hm_ hg_; have nO0_ := Aside0.mk (Kd.R_mapped (by (with_reducible repeat (first | apply Kd.R_alloc | apply Kd.R_drewN | apply Kd.R_drew)); exact HO_3.out) (by (with_reducible repeat (first | apply MapOwn.alloc | apply MapOwn.drewN | apply MapOwn.drew)); exact HM.out : MapOwn K30 E30 _ w.heap.size _ _) hg_); have nO1_ := Aside0.mk (Kd.R_mapped (by (with_reducible repeat (first | apply Kd.R_alloc | apply Kd.R_drewN | apply Kd.R_drew)); exact HO_6.out) (by (with_reducible repeat (first | apply MapOwn.alloc | apply MapOwn.drewN | apply MapOwn.drew)); exact HM.out : MapOwn K30 E30 _ w.heap.size _ _) hg_); have nB_ := Aside0.mk (below_mapped (by repeat (first | (with_reducible first | exact HB.out | apply below_alloc | apply pw_below_drewN | apply below_drew1) | exact HB.out)) (by (with_reducible repeat (first | apply MapOwn.alloc | apply MapOwn.drewN | apply MapOwn.drew)); exact HM.out : MapOwn K30 E30 _ w.heap.size _ _) (Nat.le_refl _) hg_); clear HB HM HO_3 HO_6; have HM := Aside0.mk hm_; have HB := nB_; clear nB_ hm_ hg_; have HO_3 := nO0_; clear nO0_; have HO_6 := nO1_; clear nO1_))
                            repeat (go_quiet (fail); try go_wp2)
                            go_loopg [114] kj53 (fun kq v114 w' => ∃ (x114_5 : Int), v114 = .int .i64 x114_5 ∧ Aside0 (crossroadlaw06_PathPatterns.l1 kq t169 t170 x6_19 (t169.length : Int) x114_5 = some r) ∧ Aside0 (kq ≤ kj53) ∧ Aside0 (Kd.R Kd.string 9 w' w.heap.size (fun k_ => some k_ ≠ ((.slice Ao25 x6_19.length co25) : Value).ownBlock) (.slice Ao57 t169.length co57) t169) ∧ Aside0 (Kd.R Kd.string 9 w' w.heap.size (fun k_ => some k_ ≠ ((.slice Ao57 t169.length co57) : Value).ownBlock) (.slice Ao25 x6_19.length co25) x6_19) ∧ Aside0 (Below w.heap.size w w'))
                            case atStart => exact ⟨(0), (by first | rfl | (simp; done) | (simp [*]; done)), H', ⟨Nat.le_refl _⟩, ⟨by (with_reducible repeat (first | apply Kd.R_alloc | apply Kd.R_drewN | apply Kd.R_drew)); exact HO_3.out⟩, ⟨by (with_reducible repeat (first | apply Kd.R_alloc | apply Kd.R_drewN | apply Kd.R_drew)); exact HO_6.out⟩, ⟨by repeat (first | (with_reducible first | exact HB.out | apply below_alloc | apply pw_below_drewN | apply below_drew1) | exact HB.out)⟩⟩
                            case round =>
                              clear H'
                              try clear c1
                              try clear p1
                              try clear q1
                              try clear hx1
                              try clear qi1
                              try clear c2
                              try clear p2
                              try clear c3
                              try clear p3
                              try clear q3
                              try clear hx3
                              try clear qi3
                              try clear c4
                              try clear p4
                              try clear q4
                              try clear hx4
                              try clear qi4
                              try clear c5
                              try clear p6
                              try clear c7
                              try clear c7b0
                              try clear c7b1
                              try clear c8
                              try clear c17
                              try clear c17b0
                              try clear c17b1
                              try clear p17
                              try clear q17
                              try clear hx17
                              try clear c18
                              try clear c18b0
                              try clear c18b1
                              try clear p19
                              try clear q19
                              try clear hx19
                              try clear qi19
                              try clear c21
                              try clear c22
                              try clear c22b0
                              try clear c22b1
                              try clear c26
                              try clear c26b0
                              try clear c27
                              try clear c27b0
                              try clear c28
                              try clear c28b0
                              try clear c29
                              try clear c29b0
                              try clear c29b1
                              try clear c31
                              try clear c31b0
                              try clear c31b1
                              try clear p32
                              try clear q32
                              try clear hx32
                              try clear qi32
                              try clear c33
                              try clear c33b0
                              try clear c33b1
                              try clear p34
                              try clear q34
                              try clear hx34
                              try clear qi34
                              try clear c35
                              try clear c36
                              try clear c36b0
                              try clear c36b1
                              try clear c37
                              try clear c37b0
                              try clear c37b1
                              try clear c37b2
                              try clear c38
                              try clear c38b0
                              try clear c38b1
                              try clear c39
                              try clear c40
                              try clear c40b0
                              try clear c42
                              try clear c43
                              try clear c43b0
                              try clear c44
                              try clear c44b0
                              try clear c44b1
                              try clear c45
                              try clear c45b0
                              try clear c45b1
                              try clear p46
                              try clear q46
                              try clear hx46
                              try clear qi46
                              try clear c47
                              try clear c47b0
                              try clear c47b1
                              try clear c48
                              try clear c50
                              try clear c55
                              try clear c56
                              try clear c56b0
                              try clear c56b1
                              try clear c56b2
                              try clear hx176_0
                              try clear p1
                              try clear p17
                              try clear p176
                              try clear p19
                              try clear p2
                              try clear p3
                              try clear p32
                              try clear p34
                              try clear p4
                              try clear p46
                              try clear p6
                              try clear q1
                              try clear q17
                              try clear q176
                              try clear q19
                              try clear q3
                              try clear q32
                              try clear q34
                              try clear q4
                              try clear q46
                              obtain ⟨x114_5, rfl, HA, HK5, HO_3, HO_6, HB⟩ := hrel
                              cases gk with
                              | zero => exact absurd HA.out (by simp [crossroadlaw06_PathPatterns.l1])
                              | succ k5 =>
                                have H := HA.out
                                clear HA
                                simp only [crossroadlaw06_PathPatterns.l1] at H
                                by_cases c58 : x114_5 < (t169.length : Int)
                                · rw [if_pos c58] at H
                                  have c58b0 : decide (x114_5 < (t169.length : Int)) = true := decide_eq_true c58
                                  clear c58
                                  by_cases c59 : 0 ≤ x114_5
                                  · rw [if_pos c59] at H
                                    have c59b0 : decide (0 ≤ x114_5) = true := decide_eq_true c59
                                    clear c59
                                    by_cases c60 : x114_5 < (t169.length : Int)
                                    · rw [if_pos c60] at H
                                      have c60b0 : decide (x114_5 < (t169.length : Int)) = true := decide_eq_true c60
                                      clear c60
                                      by_cases c61 : x114_5 < (x6_19.length : Int)
                                      · rw [if_pos c61] at H
                                        have c61b0 : decide (x114_5 < (x6_19.length : Int)) = true := decide_eq_true c61
                                        clear c61
                                        by_cases c62 : (rdOf ByteArray.empty t169 x114_5).toList = (rdOf ByteArray.empty x6_19 x114_5).toList
                                        · rw [if_pos c62] at H
                                          have c62b0 : ((rdOf ByteArray.empty t169 x114_5).toList == (rdOf ByteArray.empty x6_19 x114_5).toList) = true := beq_iff_eq.mpr c62
                                          have c62b1 : ((rdOf ByteArray.empty t169 x114_5).toList != (rdOf ByteArray.empty x6_19 x114_5).toList) = false := bne_eq_false_iff_eq.mpr c62
                                          clear c62
                                          have H' := Aside0.mk H
                                          clear H
                                          have p182 : 0 ≤ (x114_5 : Int) := of_decide_eq_true (by first | (with_reducible assumption) | assumption)
                                          have q182 : x114_5 < (t169.length : Int) := of_decide_eq_true (by first | (with_reducible assumption) | assumption)
                                          obtain ⟨ad182, e182, hx182_0⟩ := Kd.at_string (Kd.R_reads' HO_3.out).2.2 x114_5 p182 q182
                                          cases e182
                                          replace p182 := eq_true p182
                                          replace q182 := eq_true q182
                                          have p183 : 0 ≤ (x114_5 : Int) := of_decide_eq_true (by first | (with_reducible assumption) | assumption)
                                          have q183 : x114_5 < (x6_19.length : Int) := of_decide_eq_true (by first | (with_reducible assumption) | assumption)
                                          obtain ⟨ad183, e183, hx183_0⟩ := Kd.at_string (Kd.R_reads' HO_6.out).2.2 x114_5 p183 q183
                                          cases e183
                                          replace p183 := eq_true p183
                                          replace q183 := eq_true q183
                                          go_wp2_with (first | (at_lookup; (try (refine gate_guard (by rfl) ?_; dsimp only)); refine wpList_lookup_map_int (K := K30) (base := w.heap.size) z30 _ Try.underlying3 rfl _ _ 30 rfl Try.underlying30 _ ?hok rfl rfl (by (with_reducible repeat (first | apply MapOwn.alloc | apply MapOwn.drewN | apply MapOwn.drew)); exact HM.out) ?_; (case hok => show (ByteArray.size _) ≤ 9223372036854775807; first | assumption | exact of_decide_eq_true (by first | (with_reducible assumption) | assumption))) | (at_mapUpdate; (try (refine gate_guard (by rfl) ?_; dsimp only)); refine wpList_mapUpdate_map_int (K := K30) (base := w.heap.size) z30 Try.underlying3 _ rfl _ _ _ 30 rfl Try.underlying30 _ _ ?hok ?hel rfl rfl rfl (by (with_reducible repeat (first | apply MapOwn.alloc | apply MapOwn.drewN | apply MapOwn.drew)); exact HM.out) (by first | assumption | exact of_decide_eq_true (by first | (with_reducible assumption) | assumption)) ?_; (case hok => show (ByteArray.size _) ≤ 9223372036854775807; first | assumption | exact of_decide_eq_true (by first | (with_reducible assumption) | assumption)); (case hel => first | assumption | exact wrap64_wf _ | (refine WalkArith.wf_i64 ?_; omega)); intro wM_ hm_ hg_; have nO0_ := Aside0.mk (Kd.R_mapped (by (with_reducible repeat (first | apply Kd.R_alloc | apply Kd.R_drewN | apply Kd.R_drew)); exact HO_3.out) (by (with_reducible repeat (first | apply MapOwn.alloc | apply MapOwn.drewN | apply MapOwn.drew)); exact HM.out : MapOwn K30 E30 _ w.heap.size _ _) hg_); have nO1_ := Aside0.mk (Kd.R_mapped (by (with_reducible repeat (first | apply Kd.R_alloc | apply Kd.R_drewN | apply Kd.R_drew)); exact HO_6.out) (by (with_reducible repeat (first | apply MapOwn.alloc | apply MapOwn.drewN | apply MapOwn.drew)); exact HM.out : MapOwn K30 E30 _ w.heap.size _ _) hg_); have nB_ := Aside0.mk (below_mapped (by repeat (first | (with_reducible first | exact HB.out | apply below_alloc | apply pw_below_drewN | apply below_drew1) | exact HB.out)) (by (with_reducible repeat (first | apply MapOwn.alloc | apply MapOwn.drewN | apply MapOwn.drew)); exact HM.out : MapOwn K30 E30 _ w.heap.size _ _) (Nat.le_refl _) hg_); clear HB HM HO_3 HO_6; have HM := Aside0.mk hm_; have HB := nB_; clear nB_ hm_ hg_; have HO_3 := nO0_; clear nO0_; have HO_6 := nO1_; clear nO1_))
                                          repeat (go_quiet (fail); try go_wp2)
                                          go_roundg k5
                                          case measure => have := HJ13.out; have := HJ19.out; have := HK3.out; have := HJ53.out; have := HK5.out; omega
                                          case rel => exact ⟨(wrap64 (x114_5 + 1)), (by first | rfl | (simp; done) | (simp [*]; done)), H', ⟨by have := HJ13.out; have := HJ19.out; have := HK3.out; have := HJ53.out; have := HK5.out; omega⟩, ⟨by (with_reducible repeat (first | apply Kd.R_alloc | apply Kd.R_drewN | apply Kd.R_drew)); exact HO_3.out⟩, ⟨by (with_reducible repeat (first | apply Kd.R_alloc | apply Kd.R_drewN | apply Kd.R_drew)); exact HO_6.out⟩, ⟨by repeat (first | (with_reducible first | exact HB.out | apply below_alloc | apply pw_below_drewN | apply below_drew1) | exact HB.out)⟩⟩
                                        · rw [if_neg c62] at H
                                          have c62b0 : ((rdOf ByteArray.empty t169 x114_5).toList == (rdOf ByteArray.empty x6_19 x114_5).toList) = false := beq_eq_false_iff_ne.mpr c62
                                          have c62b1 : ((rdOf ByteArray.empty t169 x114_5).toList != (rdOf ByteArray.empty x6_19 x114_5).toList) = true := bne_iff_ne.mpr c62
                                          obtain rfl := Option.some.inj H
                                          have p182 : 0 ≤ (x114_5 : Int) := of_decide_eq_true (by first | (with_reducible assumption) | assumption)
                                          have q182 : x114_5 < (t169.length : Int) := of_decide_eq_true (by first | (with_reducible assumption) | assumption)
                                          obtain ⟨ad182, e182, hx182_0⟩ := Kd.at_string (Kd.R_reads' HO_3.out).2.2 x114_5 p182 q182
                                          cases e182
                                          replace p182 := eq_true p182
                                          replace q182 := eq_true q182
                                          have p183 : 0 ≤ (x114_5 : Int) := of_decide_eq_true (by first | (with_reducible assumption) | assumption)
                                          have q183 : x114_5 < (x6_19.length : Int) := of_decide_eq_true (by first | (with_reducible assumption) | assumption)
                                          obtain ⟨ad183, e183, hx183_0⟩ := Kd.at_string (Kd.R_reads' HO_6.out).2.2 x114_5 p183 q183
                                          cases e183
                                          replace p183 := eq_true p183
                                          replace q183 := eq_true q183
                                          go_wp2_with (first | (at_lookup; (try (refine gate_guard (by rfl) ?_; dsimp only)); refine wpList_lookup_map_int (K := K30) (base := w.heap.size) z30 _ Try.underlying3 rfl _ _ 30 rfl Try.underlying30 _ ?hok rfl rfl (by (with_reducible repeat (first | apply MapOwn.alloc | apply MapOwn.drewN | apply MapOwn.drew)); exact HM.out) ?_; (case hok => show (ByteArray.size _) ≤ 9223372036854775807; first | assumption | exact of_decide_eq_true (by first | (with_reducible assumption) | assumption))) | (at_mapUpdate; (try (refine gate_guard (by rfl) ?_; dsimp only)); refine wpList_mapUpdate_map_int (K := K30) (base := w.heap.size) z30 Try.underlying3 _ rfl _ _ _ 30 rfl Try.underlying30 _ _ ?hok ?hel rfl rfl rfl (by (with_reducible repeat (first | apply MapOwn.alloc | apply MapOwn.drewN | apply MapOwn.drew)); exact HM.out) (by first | assumption | exact of_decide_eq_true (by first | (with_reducible assumption) | assumption)) ?_; (case hok => show (ByteArray.size _) ≤ 9223372036854775807; first | assumption | exact of_decide_eq_true (by first | (with_reducible assumption) | assumption)); (case hel => first | assumption | exact wrap64_wf _ | (refine WalkArith.wf_i64 ?_; omega)); intro wM_ hm_ hg_; have nO0_ := Aside0.mk (Kd.R_mapped (by (with_reducible repeat (first | apply Kd.R_alloc | apply Kd.R_drewN | apply Kd.R_drew)); exact HO_3.out) (by (with_reducible repeat (first | apply MapOwn.alloc | apply MapOwn.drewN | apply MapOwn.drew)); exact HM.out : MapOwn K30 E30 _ w.heap.size _ _) hg_); have nO1_ := Aside0.mk (Kd.R_mapped (by (with_reducible repeat (first | apply Kd.R_alloc | apply Kd.R_drewN | apply Kd.R_drew)); exact HO_6.out) (by (with_reducible repeat (first | apply MapOwn.alloc | apply MapOwn.drewN | apply MapOwn.drew)); exact HM.out : MapOwn K30 E30 _ w.heap.size _ _) hg_); have nB_ := Aside0.mk (below_mapped (by repeat (first | (with_reducible first | exact HB.out | apply below_alloc | apply pw_below_drewN | apply below_drew1) | exact HB.out)) (by (with_reducible repeat (first | apply MapOwn.alloc | apply MapOwn.drewN | apply MapOwn.drew)); exact HM.out : MapOwn K30 E30 _ w.heap.size _ _) (Nat.le_refl _) hg_); clear HB HM HO_3 HO_6; have HM := Aside0.mk hm_; have HB := nB_; clear nB_ hm_ hg_; have HO_3 := nO0_; clear nO0_; have HO_6 := nO1_; clear nO1_))
                                          repeat (go_quiet (fail); try go_wp2)
                                          go_ret
                                          exact ⟨by first | rfl | (simp [errW_none, errW_some] <;> rfl) | (simp [*, errW_none, errW_some] <;> rfl), by repeat (first | (with_reducible first | exact HB.out | apply below_alloc | apply pw_below_drewN | apply below_drew1) | exact HB.out)⟩
                                      · rw [if_neg c61] at H
                                        exact absurd H (by simp)
                                    · rw [if_neg c60] at H
                                      exact absurd H (by simp)
                                  · rw [if_neg c59] at H
                                    exact absurd H (by simp)
                                · rw [if_neg c58] at H
                                  have c58b0 : decide (x114_5 < (t169.length : Int)) = false := decide_eq_false c58
                                  clear c58
                                  by_cases c63 : t170 = true
                                  · subst c63
                                    have H1 : (some ((t169.length : Int) == (x6_19.length : Int))) = some r := by rw [if_pos rfl] at H; exact H
                                    clear H
                                    have H := H1
                                    clear H1
                                    obtain rfl := Option.some.inj H
                                    go_wp2_with (first | (at_lookup; (try (refine gate_guard (by rfl) ?_; dsimp only)); refine wpList_lookup_map_int (K := K30) (base := w.heap.size) z30 _ Try.underlying3 rfl _ _ 30 rfl Try.underlying30 _ ?hok rfl rfl (by (with_reducible repeat (first | apply MapOwn.alloc | apply MapOwn.drewN | apply MapOwn.drew)); exact HM.out) ?_; (case hok => show (ByteArray.size _) ≤ 9223372036854775807; first | assumption | exact of_decide_eq_true (by first | (with_reducible assumption) | assumption))) | (at_mapUpdate; (try (refine gate_guard (by rfl) ?_; dsimp only)); refine wpList_mapUpdate_map_int (K := K30) (base := w.heap.size) z30 Try.underlying3 _ rfl _ _ _ 30 rfl Try.underlying30 _ _ ?hok ?hel rfl rfl rfl (by (with_reducible repeat (first | apply MapOwn.alloc | apply MapOwn.drewN | apply MapOwn.drew)); exact HM.out) (by first | assumption | exact of_decide_eq_true (by first | (with_reducible assumption) | assumption)) ?_; (case hok => show (ByteArray.size _) ≤ 9223372036854775807; first | assumption | exact of_decide_eq_true (by first | (with_reducible assumption) | assumption)); (case hel => first | assumption | exact wrap64_wf _ | (refine WalkArith.wf_i64 ?_; omega)); intro wM_ hm_ hg_; have nO0_ := Aside0.mk (Kd.R_mapped (by (with_reducible repeat (first | apply Kd.R_alloc | apply Kd.R_drewN | apply Kd.R_drew)); exact HO_3.out) (by (with_reducible repeat (first | apply MapOwn.alloc | apply MapOwn.drewN | apply MapOwn.drew)); exact HM.out : MapOwn K30 E30 _ w.heap.size _ _) hg_); have nO1_ := Aside0.mk (Kd.R_mapped (by (with_reducible repeat (first | apply Kd.R_alloc | apply Kd.R_drewN | apply Kd.R_drew)); exact HO_6.out) (by (with_reducible repeat (first | apply MapOwn.alloc | apply MapOwn.drewN | apply MapOwn.drew)); exact HM.out : MapOwn K30 E30 _ w.heap.size _ _) hg_); have nB_ := Aside0.mk (below_mapped (by repeat (first | (with_reducible first | exact HB.out | apply below_alloc | apply pw_below_drewN | apply below_drew1) | exact HB.out)) (by (with_reducible repeat (first | apply MapOwn.alloc | apply MapOwn.drewN | apply MapOwn.drew)); exact HM.out : MapOwn K30 E30 _ w.heap.size _ _) (Nat.le_refl _) hg_); clear HB HM HO_3 HO_6; have HM := Aside0.mk hm_; have HB := nB_; clear nB_ hm_ hg_; have HO_3 := nO0_; clear nO0_; have HO_6 := nO1_; clear nO1_))
                                    repeat (go_quiet (fail); try go_wp2)
                                    go_ret
                                    exact ⟨by first | rfl | (simp [errW_none, errW_some] <;> rfl) | (simp [*, errW_none, errW_some] <;> rfl), by repeat (first | (with_reducible first | exact HB.out | apply below_alloc | apply pw_below_drewN | apply below_drew1) | exact HB.out)⟩
                                  · replace c63 := Bool.eq_false_iff.mpr c63
                                    subst c63
                                    have H1 : (some true) = some r := by rw [if_neg (show ¬ (false = true) by decide)] at H; exact H
                                    clear H
                                    have H := H1
                                    clear H1
                                    obtain rfl := Option.some.inj H
                                    go_wp2_with (first | (at_lookup; (try (refine gate_guard (by rfl) ?_; dsimp only)); refine wpList_lookup_map_int (K := K30) (base := w.heap.size) z30 _ Try.underlying3 rfl _ _ 30 rfl Try.underlying30 _ ?hok rfl rfl (by (with_reducible repeat (first | apply MapOwn.alloc | apply MapOwn.drewN | apply MapOwn.drew)); exact HM.out) ?_; (case hok => show (ByteArray.size _) ≤ 9223372036854775807; first | assumption | exact of_decide_eq_true (by first | (with_reducible assumption) | assumption))) | (at_mapUpdate; (try (refine gate_guard (by rfl) ?_; dsimp only)); refine wpList_mapUpdate_map_int (K := K30) (base := w.heap.size) z30 Try.underlying3 _ rfl _ _ _ 30 rfl Try.underlying30 _ _ ?hok ?hel rfl rfl rfl (by (with_reducible repeat (first | apply MapOwn.alloc | apply MapOwn.drewN | apply MapOwn.drew)); exact HM.out) (by first | assumption | exact of_decide_eq_true (by first | (with_reducible assumption) | assumption)) ?_; (case hok => show (ByteArray.size _) ≤ 9223372036854775807; first | assumption | exact of_decide_eq_true (by first | (with_reducible assumption) | assumption)); (case hel => first | assumption | exact wrap64_wf _ | (refine WalkArith.wf_i64 ?_; omega)); intro wM_ hm_ hg_; have nO0_ := Aside0.mk (Kd.R_mapped (by (with_reducible repeat (first | apply Kd.R_alloc | apply Kd.R_drewN | apply Kd.R_drew)); exact HO_3.out) (by (with_reducible repeat (first | apply MapOwn.alloc | apply MapOwn.drewN | apply MapOwn.drew)); exact HM.out : MapOwn K30 E30 _ w.heap.size _ _) hg_); have nO1_ := Aside0.mk (Kd.R_mapped (by (with_reducible repeat (first | apply Kd.R_alloc | apply Kd.R_drewN | apply Kd.R_drew)); exact HO_6.out) (by (with_reducible repeat (first | apply MapOwn.alloc | apply MapOwn.drewN | apply MapOwn.drew)); exact HM.out : MapOwn K30 E30 _ w.heap.size _ _) hg_); have nB_ := Aside0.mk (below_mapped (by repeat (first | (with_reducible first | exact HB.out | apply below_alloc | apply pw_below_drewN | apply below_drew1) | exact HB.out)) (by (with_reducible repeat (first | apply MapOwn.alloc | apply MapOwn.drewN | apply MapOwn.drew)); exact HM.out : MapOwn K30 E30 _ w.heap.size _ _) (Nat.le_refl _) hg_); clear HB HM HO_3 HO_6; have HM := Aside0.mk hm_; have HB := nB_; clear nB_ hm_ hg_; have HO_3 := nO0_; clear nO0_; have HO_6 := nO1_; clear nO1_))
                                    repeat (go_quiet (fail); try go_wp2)
                                    go_ret
                                    exact ⟨by first | rfl | (simp [errW_none, errW_some] <;> rfl) | (simp [*, errW_none, errW_some] <;> rfl), by repeat (first | (with_reducible first | exact HB.out | apply below_alloc | apply pw_below_drewN | apply below_drew1) | exact HB.out)⟩
    · replace c5 := Bool.eq_false_iff.mpr c5
      subst c5
      have H1 : (some true) = some r := by rw [if_neg (show ¬ (false = true) by decide)] at H; exact H
      clear H
      have H := H1
      clear H1
      obtain rfl := Option.some.inj H
      go_enter Try.func4, Try.ntmps4
      go_wp2_with (first | (at_lookup; (try (refine gate_guard (by rfl) ?_; dsimp only)); refine wpList_lookup_map_int (K := K30) (base := w.heap.size) z30 _ Try.underlying3 rfl _ _ 30 rfl Try.underlying30 _ ?hok rfl rfl (by (with_reducible repeat (first | apply MapOwn.alloc | apply MapOwn.drewN | apply MapOwn.drew)); exact HM.out) ?_; (case hok => show (ByteArray.size _) ≤ 9223372036854775807; first | assumption | exact of_decide_eq_true (by first | (with_reducible assumption) | assumption))) | (at_mapUpdate; (try (refine gate_guard (by rfl) ?_; dsimp only)); refine wpList_mapUpdate_map_int (K := K30) (base := w.heap.size) z30 Try.underlying3 _ rfl _ _ _ 30 rfl Try.underlying30 _ _ ?hok ?hel rfl rfl rfl (by (with_reducible repeat (first | apply MapOwn.alloc | apply MapOwn.drewN | apply MapOwn.drew)); exact HM.out) (by first | assumption | exact of_decide_eq_true (by first | (with_reducible assumption) | assumption)) ?_; (case hok => show (ByteArray.size _) ≤ 9223372036854775807; first | assumption | exact of_decide_eq_true (by first | (with_reducible assumption) | assumption)); (case hel => first | assumption | exact wrap64_wf _ | (refine WalkArith.wf_i64 ?_; omega)); intro wM_ hm_ hg_; have nO0_ := Aside0.mk (Kd.R_mapped (by (with_reducible repeat (first | apply Kd.R_alloc | apply Kd.R_drewN | apply Kd.R_drew)); exact HO_3.out) (by (with_reducible repeat (first | apply MapOwn.alloc | apply MapOwn.drewN | apply MapOwn.drew)); exact HM.out : MapOwn K30 E30 _ w.heap.size _ _) hg_); have nO1_ := Aside0.mk (Kd.R_mapped (by (with_reducible repeat (first | apply Kd.R_alloc | apply Kd.R_drewN | apply Kd.R_drew)); exact HO_6.out) (by (with_reducible repeat (first | apply MapOwn.alloc | apply MapOwn.drewN | apply MapOwn.drew)); exact HM.out : MapOwn K30 E30 _ w.heap.size _ _) hg_); have nB_ := Aside0.mk (below_mapped (by repeat (first | (with_reducible first | exact HB.out | apply below_alloc | apply pw_below_drewN | apply below_drew1) | exact HB.out)) (by (with_reducible repeat (first | apply MapOwn.alloc | apply MapOwn.drewN | apply MapOwn.drew)); exact HM.out : MapOwn K30 E30 _ w.heap.size _ _) (Nat.le_refl _) hg_); clear HB HM HO_3 HO_6; have HM := Aside0.mk hm_; have HB := nB_; clear nB_ hm_ hg_; have HO_3 := nO0_; clear nO0_; have HO_6 := nO1_; clear nO1_) | (go_at_call 9; (with_reducible refine (crossroadlaw06_fit.calls k  true _ A2.out).mono ?_); rintro e w64 ⟨rfl, hb⟩; (try (have nM_ := Aside0.mk (MapOwn.below (by (with_reducible repeat (first | apply MapOwn.alloc | apply MapOwn.drewN | apply MapOwn.drew)); exact HM.out) hb); clear HM; have HM := nM_; clear nM_)); have n0_ := Aside0.mk (below_step (by repeat (first | (with_reducible first | exact HB.out | apply below_alloc | apply pw_below_drewN | apply below_drew1) | exact HB.out)) hb); clear HB; have HB := n0_; clear n0_; (try clear hb); (try clear hb2); (try clear hk); (try clear hi)) | (go_at_call 10; (with_reducible refine (crossroadlaw06_light.calls a0 false _ A4.out).mono ?_); rintro e w' ⟨rfl, ⟨nd, rfl⟩⟩; (try first | exact ⟨rfl, _, World.drewN_drewN _ _ _⟩ | exact ⟨rfl, _, Eq.trans (World.drewN_drewN _ _ _) (congrArg (World.drewN _) (Nat.add_assoc _ _ _))⟩)))
      repeat (go_quiet (first | (go_at_call 9; (with_reducible refine (crossroadlaw06_fit.calls k  true _ A2.out).mono ?_); rintro e w64 ⟨rfl, hb⟩; (try (have nM_ := Aside0.mk (MapOwn.below (by (with_reducible repeat (first | apply MapOwn.alloc | apply MapOwn.drewN | apply MapOwn.drew)); exact HM.out) hb); clear HM; have HM := nM_; clear nM_)); have n0_ := Aside0.mk (below_step (by repeat (first | (with_reducible first | exact HB.out | apply below_alloc | apply pw_below_drewN | apply below_drew1) | exact HB.out)) hb); clear HB; have HB := n0_; clear n0_; (try clear hb); (try clear hb2); (try clear hk); (try clear hi)) | (go_at_call 10; (with_reducible refine (crossroadlaw06_light.calls a0 false _ A4.out).mono ?_); rintro e w' ⟨rfl, ⟨nd, rfl⟩⟩; (try first | exact ⟨rfl, _, World.drewN_drewN _ _ _⟩ | exact ⟨rfl, _, Eq.trans (World.drewN_drewN _ _ _) (congrArg (World.drewN _) (Nat.add_assoc _ _ _))⟩))); try go_wp2_with (first | (at_lookup; (try (refine gate_guard (by rfl) ?_; dsimp only)); refine wpList_lookup_map_int (K := K30) (base := w.heap.size) z30 _ Try.underlying3 rfl _ _ 30 rfl Try.underlying30 _ ?hok rfl rfl (by (with_reducible repeat (first | apply MapOwn.alloc | apply MapOwn.drewN | apply MapOwn.drew)); exact HM.out) ?_; (case hok => show (ByteArray.size _) ≤ 9223372036854775807; first | assumption | exact of_decide_eq_true (by first | (with_reducible assumption) | assumption))) | (at_mapUpdate; (try (refine gate_guard (by rfl) ?_; dsimp only)); refine wpList_mapUpdate_map_int (K := K30) (base := w.heap.size) z30 Try.underlying3 _ rfl _ _ _ 30 rfl Try.underlying30 _ _ ?hok ?hel rfl rfl rfl (by (with_reducible repeat (first | apply MapOwn.alloc | apply MapOwn.drewN | apply MapOwn.drew)); exact HM.out) (by first | assumption | exact of_decide_eq_true (by first | (with_reducible assumption) | assumption)) ?_; (case hok => show (ByteArray.size _) ≤ 9223372036854775807; first | assumption | exact of_decide_eq_true (by first | (with_reducible assumption) | assumption)); (case hel => first | assumption | exact wrap64_wf _ | (refine WalkArith.wf_i64 ?_; omega)); intro wM_ hm_ hg_; have nO0_ := Aside0.mk (Kd.R_mapped (by (with_reducible repeat (first | apply Kd.R_alloc | apply Kd.R_drewN | apply Kd.R_drew)); exact HO_3.out) (by (with_reducible repeat (first | apply MapOwn.alloc | apply MapOwn.drewN | apply MapOwn.drew)); exact HM.out : MapOwn K30 E30 _ w.heap.size _ _) hg_); have nO1_ := Aside0.mk (Kd.R_mapped (by (with_reducible repeat (first | apply Kd.R_alloc | apply Kd.R_drewN | apply Kd.R_drew)); exact HO_6.out) (by (with_reducible repeat (first | apply MapOwn.alloc | apply MapOwn.drewN | apply MapOwn.drew)); exact HM.out : MapOwn K30 E30 _ w.heap.size _ _) hg_); have nB_ := Aside0.mk (below_mapped (by repeat (first | (with_reducible first | exact HB.out | apply below_alloc | apply pw_below_drewN | apply below_drew1) | exact HB.out)) (by (with_reducible repeat (first | apply MapOwn.alloc | apply MapOwn.drewN | apply MapOwn.drew)); exact HM.out : MapOwn K30 E30 _ w.heap.size _ _) (Nat.le_refl _) hg_); clear HB HM HO_3 HO_6; have HM := Aside0.mk hm_; have HB := nB_; clear nB_ hm_ hg_; have HO_3 := nO0_; clear nO0_; have HO_6 := nO1_; clear nO1_) | (go_at_call 9; (with_reducible refine (crossroadlaw06_fit.calls k  true _ A2.out).mono ?_); rintro e w64 ⟨rfl, hb⟩; (try (have nM_ := Aside0.mk (MapOwn.below (by (with_reducible repeat (first | apply MapOwn.alloc | apply MapOwn.drewN | apply MapOwn.drew)); exact HM.out) hb); clear HM; have HM := nM_; clear nM_)); have n0_ := Aside0.mk (below_step (by repeat (first | (with_reducible first | exact HB.out | apply below_alloc | apply pw_below_drewN | apply below_drew1) | exact HB.out)) hb); clear HB; have HB := n0_; clear n0_; (try clear hb); (try clear hb2); (try clear hk); (try clear hi)) | (go_at_call 10; (with_reducible refine (crossroadlaw06_light.calls a0 false _ A4.out).mono ?_); rintro e w' ⟨rfl, ⟨nd, rfl⟩⟩; (try first | exact ⟨rfl, _, World.drewN_drewN _ _ _⟩ | exact ⟨rfl, _, Eq.trans (World.drewN_drewN _ _ _) (congrArg (World.drewN _) (Nat.add_assoc _ _ _))⟩))))
      go_ret
      exact ⟨by first | rfl | (simp [errW_none, errW_some] <;> rfl) | (simp [*, errW_none, errW_some] <;> rfl), by repeat (first | (with_reducible first | exact HB.out | apply below_alloc | apply pw_below_drewN | apply below_drew1) | exact HB.out)⟩
  · replace c3 := Bool.eq_false_iff.mpr c3
    subst c3
    have H1 : (some false) = some r := by rw [if_neg (show ¬ (false = true) by decide)] at H; exact H
    clear H
    have H := H1
    clear H1
    obtain rfl := Option.some.inj H
    go_enter Try.func4, Try.ntmps4
    go_wp2_with (first | (at_lookup; (try (refine gate_guard (by rfl) ?_; dsimp only)); refine wpList_lookup_map_int (K := K30) (base := w.heap.size) z30 _ Try.underlying3 rfl _ _ 30 rfl Try.underlying30 _ ?hok rfl rfl (by (with_reducible repeat (first | apply MapOwn.alloc | apply MapOwn.drewN | apply MapOwn.drew)); exact HM.out) ?_; (case hok => show (ByteArray.size _) ≤ 9223372036854775807; first | assumption | exact of_decide_eq_true (by first | (with_reducible assumption) | assumption))) | (at_mapUpdate; (try (refine gate_guard (by rfl) ?_; dsimp only)); refine wpList_mapUpdate_map_int (K := K30) (base := w.heap.size) z30 Try.underlying3 _ rfl _ _ _ 30 rfl Try.underlying30 _ _ ?hok ?hel rfl rfl rfl (by (with_reducible repeat (first | apply MapOwn.alloc | apply MapOwn.drewN | apply MapOwn.drew)); exact HM.out) (by first | assumption | exact of_decide_eq_true (by first | (with_reducible assumption) | assumption)) ?_; (case hok => show (ByteArray.size _) ≤ 9223372036854775807; first | assumption | exact of_decide_eq_true (by first | (with_reducible assumption) | assumption)); (case hel => first | assumption | exact wrap64_wf _ | (refine WalkArith.wf_i64 ?_; omega)); intro wM_ hm_ hg_; have nO0_ := Aside0.mk (Kd.R_mapped (by (with_reducible repeat (first | apply Kd.R_alloc | apply Kd.R_drewN | apply Kd.R_drew)); exact HO_3.out) (by (with_reducible repeat (first | apply MapOwn.alloc | apply MapOwn.drewN | apply MapOwn.drew)); exact HM.out : MapOwn K30 E30 _ w.heap.size _ _) hg_); have nO1_ := Aside0.mk (Kd.R_mapped (by (with_reducible repeat (first | apply Kd.R_alloc | apply Kd.R_drewN | apply Kd.R_drew)); exact HO_6.out) (by (with_reducible repeat (first | apply MapOwn.alloc | apply MapOwn.drewN | apply MapOwn.drew)); exact HM.out : MapOwn K30 E30 _ w.heap.size _ _) hg_); have nB_ := Aside0.mk (below_mapped (by repeat (first | (with_reducible first | exact HB.out | apply below_alloc | apply pw_below_drewN | apply below_drew1) | exact HB.out)) (by (with_reducible repeat (first | apply MapOwn.alloc | apply MapOwn.drewN | apply MapOwn.drew)); exact HM.out : MapOwn K30 E30 _ w.heap.size _ _) (Nat.le_refl _) hg_); clear HB HM HO_3 HO_6; have HM := Aside0.mk hm_; have HB := nB_; clear nB_ hm_ hg_; have HO_3 := nO0_; clear nO0_; have HO_6 := nO1_; clear nO1_) | (go_at_call 9; (with_reducible refine (crossroadlaw06_fit.calls k  false _ A2.out).mono ?_); rintro e w65 ⟨rfl, hb⟩; (try (have nM_ := Aside0.mk (MapOwn.below (by (with_reducible repeat (first | apply MapOwn.alloc | apply MapOwn.drewN | apply MapOwn.drew)); exact HM.out) hb); clear HM; have HM := nM_; clear nM_)); have n0_ := Aside0.mk (below_step (by repeat (first | (with_reducible first | exact HB.out | apply below_alloc | apply pw_below_drewN | apply below_drew1) | exact HB.out)) hb); clear HB; have HB := n0_; clear n0_; (try clear hb); (try clear hb2); (try clear hk); (try clear hi)))
    repeat (go_quiet (first | (go_at_call 9; (with_reducible refine (crossroadlaw06_fit.calls k  false _ A2.out).mono ?_); rintro e w65 ⟨rfl, hb⟩; (try (have nM_ := Aside0.mk (MapOwn.below (by (with_reducible repeat (first | apply MapOwn.alloc | apply MapOwn.drewN | apply MapOwn.drew)); exact HM.out) hb); clear HM; have HM := nM_; clear nM_)); have n0_ := Aside0.mk (below_step (by repeat (first | (with_reducible first | exact HB.out | apply below_alloc | apply pw_below_drewN | apply below_drew1) | exact HB.out)) hb); clear HB; have HB := n0_; clear n0_; (try clear hb); (try clear hb2); (try clear hk); (try clear hi))); try go_wp2_with (first | (at_lookup; (try (refine gate_guard (by rfl) ?_; dsimp only)); refine wpList_lookup_map_int (K := K30) (base := w.heap.size) z30 _ Try.underlying3 rfl _ _ 30 rfl Try.underlying30 _ ?hok rfl rfl (by (with_reducible repeat (first | apply MapOwn.alloc | apply MapOwn.drewN | apply MapOwn.drew)); exact HM.out) ?_; (case hok => show (ByteArray.size _) ≤ 9223372036854775807; first | assumption | exact of_decide_eq_true (by first | (with_reducible assumption) | assumption))) | (at_mapUpdate; (try (refine gate_guard (by rfl) ?_; dsimp only)); refine wpList_mapUpdate_map_int (K := K30) (base := w.heap.size) z30 Try.underlying3 _ rfl _ _ _ 30 rfl Try.underlying30 _ _ ?hok ?hel rfl rfl rfl (by (with_reducible repeat (first | apply MapOwn.alloc | apply MapOwn.drewN | apply MapOwn.drew)); exact HM.out) (by first | assumption | exact of_decide_eq_true (by first | (with_reducible assumption) | assumption)) ?_; (case hok => show (ByteArray.size _) ≤ 9223372036854775807; first | assumption | exact of_decide_eq_true (by first | (with_reducible assumption) | assumption)); (case hel => first | assumption | exact wrap64_wf _ | (refine WalkArith.wf_i64 ?_; omega)); intro wM_ hm_ hg_; have nO0_ := Aside0.mk (Kd.R_mapped (by (with_reducible repeat (first | apply Kd.R_alloc | apply Kd.R_drewN | apply Kd.R_drew)); exact HO_3.out) (by (with_reducible repeat (first | apply MapOwn.alloc | apply MapOwn.drewN | apply MapOwn.drew)); exact HM.out : MapOwn K30 E30 _ w.heap.size _ _) hg_); have nO1_ := Aside0.mk (Kd.R_mapped (by (with_reducible repeat (first | apply Kd.R_alloc | apply Kd.R_drewN | apply Kd.R_drew)); exact HO_6.out) (by (with_reducible repeat (first | apply MapOwn.alloc | apply MapOwn.drewN | apply MapOwn.drew)); exact HM.out : MapOwn K30 E30 _ w.heap.size _ _) hg_); have nB_ := Aside0.mk (below_mapped (by repeat (first | (with_reducible first | exact HB.out | apply below_alloc | apply pw_below_drewN | apply below_drew1) | exact HB.out)) (by (with_reducible repeat (first | apply MapOwn.alloc | apply MapOwn.drewN | apply MapOwn.drew)); exact HM.out : MapOwn K30 E30 _ w.heap.size _ _) (Nat.le_refl _) hg_); clear HB HM HO_3 HO_6; have HM := Aside0.mk hm_; have HB := nB_; clear nB_ hm_ hg_; have HO_3 := nO0_; clear nO0_; have HO_6 := nO1_; clear nO1_) | (go_at_call 9; (with_reducible refine (crossroadlaw06_fit.calls k  false _ A2.out).mono ?_); rintro e w65 ⟨rfl, hb⟩; (try (have nM_ := Aside0.mk (MapOwn.below (by (with_reducible repeat (first | apply MapOwn.alloc | apply MapOwn.drewN | apply MapOwn.drew)); exact HM.out) hb); clear HM; have HM := nM_; clear nM_)); have n0_ := Aside0.mk (below_step (by repeat (first | (with_reducible first | exact HB.out | apply below_alloc | apply pw_below_drewN | apply below_drew1) | exact HB.out)) hb); clear HB; have HB := n0_; clear n0_; (try clear hb); (try clear hb2); (try clear hk); (try clear hi))))
    go_ret
    exact ⟨by first | rfl | (simp [errW_none, errW_some] <;> rfl) | (simp [*, errW_none, errW_some] <;> rfl), by repeat (first | (with_reducible first | exact HB.out | apply below_alloc | apply pw_below_drewN | apply below_drew1) | exact HB.out)⟩

/-- THE ONE PURE STATEMENT of crossroadlaw06_PathPatterns: yours. -/
def crossroadlaw06_PathPatterns.Pure : Prop := ∀ (a0 : ByteArray), a0.size ≤ 140737488351232 → ∃ k, crossroadlaw06_PathPatterns.f k a0 = some true
theorem crossroadlaw06_PathPatterns.walk (P : crossroadlaw06_PathPatterns.Pure) (a0 : ByteArray) (w : World) (w0 : a0.size ≤ 140737488351232) :
    Calls Try.prog 4 #[.string a0] w fun e w' => e = .returned (.bool true) ∧ Below w.heap.size w w' := by
  obtain ⟨k, h⟩ := P a0 w0
  refine (crossroadlaw06_PathPatterns.calls k a0 true w h).mono ?_
  rintro e w' ⟨rfl, hd⟩
  exact ⟨rfl, hd⟩

end Go.Proofs.Ytnafapefbcmmbaa.X

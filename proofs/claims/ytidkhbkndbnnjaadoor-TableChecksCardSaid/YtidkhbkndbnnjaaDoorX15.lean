-- Written for this claim by a program of this session (wip/xprint.py). Not trusted: Lean checks it.
import Derived.Test.YtidkhbkndbnnjaaDoorX0
import Derived.Test.YtidkhbkndbnnjaaDoorX4
import Derived.Test.YtidkhbkndbnnjaaDoorX7
import Derived.Test.YtidkhbkndbnnjaaDoorX8
import Derived.Test.YtidkhbkndbnnjaaDoorX9
import Derived.Test.YtidkhbkndbnnjaaDoorX10
import Derived.Test.YtidkhbkndbnnjaaDoorX11
import Derived.Test.YtidkhbkndbnnjaaDoorX13
import Derived.Test.YtidkhbkndbnnjaaDoorX14
namespace Go.Proofs.YtidkhbkndbnnjaaDoor.X
open Go.RowKit Go.Proofs.YtidkhbkndbnnjaaDoorW.PrintWords Go.Proofs.YtidkhbkndbnnjaaDoorW.PrintLast Go.Proofs.YtidkhbkndbnnjaaDoorW.PrintMore
attribute [local go_sem] max2_int min2_int max_two min_two max_three min_three max_four min_four   -- for this text's walks alone
set_option linter.unusedVariables false
set_option linter.unusedSimpArgs false

/-! ### crossroadlaw07_TableChecks: function 3 -/
mutual
def crossroadlaw07_TableChecks.l0 : Nat → List (S27) → Int → List (S27) → Int → Int → Option (Bool)
  | 0, _, _, _, _, _ => none
  | k + 1, x0, x3, x23, x24, x25 => if x25 < x24 then (if 0 ≤ x25 then (if x25 < (x23.length : Int) then ((path_Pattern.f k ((rd_T27 x23 x25).f1)).bind fun bt178 => (crossroadlaw07_TableChecks.l1 k x0 x3 bt178.1 bt178.2 x23 x24 x25 x25 0 ((rd_T27 x23 x25).f0) ((rd_T27 x23 x25).f1) ((rd_T27 x23 x25).f2))) else (none)) else (none)) else (if (x0.length : Int) > 24 then (crossroadlaw07_TableChecks.j2 k x0 2) else (crossroadlaw07_TableChecks.j2 k x0 x3))
def crossroadlaw07_TableChecks.l1 : Nat → List (S27) → Int → List ByteArray → Bool → List (S27) → Int → Int → Int → Int → ByteArray → ByteArray → ByteArray → Option (Bool)
  | 0, _, _, _, _, _, _, _, _, _, _, _, _ => none
  | k + 1, x0, x3, x6, x7, x23, x24, x25, x36, x37, x178000, x178001, x178002 => if x37 < x36 then (if 0 ≤ x37 then (if x37 < (x0.length : Int) then ((path_Pattern.f k ((rd_T27 x0 x37).f1)).bind fun bt183 => (if x7 = true then (if bt183.2 = true then (if ((rd_T27 x0 x37).f0).toList = x178000.toList then ((path_Shape.f k x6).bind fun t188 => ((path_Shape.f k bt183.1).bind fun t189 => (if t188.toList = t189.toList then (if x3 = 0 then (crossroadlaw07_TableChecks.l1 k x0 3 x6 x7 x23 x24 x25 x36 (wrap64 (x37 + 1)) x178000 x178001 x178002) else (crossroadlaw07_TableChecks.l1 k x0 x3 x6 x7 x23 x24 x25 x36 (wrap64 (x37 + 1)) x178000 x178001 x178002)) else (crossroadlaw07_TableChecks.l1 k x0 x3 x6 x7 x23 x24 x25 x36 (wrap64 (x37 + 1)) x178000 x178001 x178002)))) else (crossroadlaw07_TableChecks.l1 k x0 x3 x6 x7 x23 x24 x25 x36 (wrap64 (x37 + 1)) x178000 x178001 x178002)) else (crossroadlaw07_TableChecks.l1 k x0 x3 x6 x7 x23 x24 x25 x36 (wrap64 (x37 + 1)) x178000 x178001 x178002)) else (crossroadlaw07_TableChecks.l1 k x0 x3 x6 x7 x23 x24 x25 x36 (wrap64 (x37 + 1)) x178000 x178001 x178002))) else (none)) else (none)) else (crossroadlaw07_TableChecks.l0 k x0 x3 x23 x24 (wrap64 (x25 + 1)))
def crossroadlaw07_TableChecks.j2 : Nat → List (S27) → Int → Option (Bool)
  | 0, _, _ => none
  | k + 1, x0, x3 => crossroadlaw07_TableChecks.l2 k x0 x3 x0 (x0.length : Int) 0
def crossroadlaw07_TableChecks.l2 : Nat → List (S27) → Int → List (S27) → Int → Int → Option (Bool)
  | 0, _, _, _, _, _ => none
  | k + 1, x0, x3, x79, x80, x81 => if x81 < x80 then (if 0 ≤ x81 then (if x81 < (x79.length : Int) then ((path_Pattern.f k ((rd_T27 x79 x81).f1)).bind fun bt193 => ((some (([(⟨#[103, 101, 116]⟩ : ByteArray), (⟨#[112, 117, 116]⟩ : ByteArray), (⟨#[100, 101, 108, 101, 116, 101]⟩ : ByteArray), (⟨#[108, 105, 115, 116]⟩ : ByteArray), (⟨#[119, 97, 108, 107]⟩ : ByteArray), (⟨#[104, 101, 97, 108, 116, 104]⟩ : ByteArray), (⟨#[114, 101, 108, 111, 97, 100]⟩ : ByteArray), (⟨#[115, 104, 117, 116, 100, 111, 119, 110]⟩ : ByteArray)] : List ByteArray) : List ByteArray)).bind fun y197 => (crossroadlaw07_TableChecks.l3 k x0 x3 bt193.2 false x79 x80 x81 y197 (y197.length : Int) 0 ((rd_T27 x79 x81).f0) ((rd_T27 x79 x81).f1) ((rd_T27 x79 x81).f2)))) else (none)) else (none)) else ((table_Check.f k x0).bind fun t190 => (some (t190 == x3)))
def crossroadlaw07_TableChecks.l3 : Nat → List (S27) → Int → Bool → Bool → List (S27) → Int → Int → List ByteArray → Int → Int → ByteArray → ByteArray → ByteArray → Option (Bool)
  | 0, _, _, _, _, _, _, _, _, _, _, _, _, _ => none
  | k + 1, x0, x3, x14, x15, x79, x80, x81, x91, x92, x93, x193000, x193001, x193002 => if x93 < x92 then (if 0 ≤ x93 then (if x93 < (x91.length : Int) then (if x15 = true then (crossroadlaw07_TableChecks.l3 k x0 x3 x14 true x79 x80 x81 x91 x92 (wrap64 (x93 + 1)) x193000 x193001 x193002) else (crossroadlaw07_TableChecks.l3 k x0 x3 x14 ((rdOf ByteArray.empty x91 x93).toList == x193002.toList) x79 x80 x81 x91 x92 (wrap64 (x93 + 1)) x193000 x193001 x193002)) else (none)) else (none)) else ((table_Handler.f x193002).bind fun t201 => (if (t201 != x15) = true then (crossroadlaw07_TableChecks.j5 k x0 x3 x79 x80 x81 true x193000 x193001 x193002) else ((table_Right.f k x193000 x193001 x193002).bind fun t202 => (if x14 = true then (if x15 = true then ((ascii_Token.f k x193000).bind fun t203 => (crossroadlaw07_TableChecks.j5 k x0 x3 x79 x80 x81 (t202 != t203) x193000 x193001 x193002)) else (crossroadlaw07_TableChecks.j5 k x0 x3 x79 x80 x81 (t202 != false) x193000 x193001 x193002)) else (crossroadlaw07_TableChecks.j5 k x0 x3 x79 x80 x81 (t202 != false) x193000 x193001 x193002)))))
def crossroadlaw07_TableChecks.j5 : Nat → List (S27) → Int → List (S27) → Int → Int → Bool → ByteArray → ByteArray → ByteArray → Option (Bool)
  | 0, _, _, _, _, _, _, _, _, _ => none
  | k + 1, x0, x3, x79, x80, x81, x123, x193000, x193001, x193002 => if x123 = true then (some false) else ((table_Right.f k x193000 x193001 x193002).bind fun t204 => (if t204 = true then (crossroadlaw07_TableChecks.l2 k x0 x3 x79 x80 (wrap64 (x81 + 1))) else (crossroadlaw07_TableChecks.l2 k x0 1 x79 x80 (wrap64 (x81 + 1)))))
end
def crossroadlaw07_TableChecks.f (k : Nat) (l0 : List (S27)) : Option (Bool) := (crossroadlaw07_fit.f k).bind fun t174 => (if t174 = true then ((crossroadlaw07_light.f k l0).bind fun t175 => (if t175 = true then (crossroadlaw07_TableChecks.l0 k l0 0 l0 (l0.length : Int) 0) else (some true))) else (some false))
theorem crossroadlaw07_TableChecks.mono_l : ∀ k, (∀ y0 y1 y2 y3 y4, LeO (crossroadlaw07_TableChecks.l0 k y0 y1 y2 y3 y4) (crossroadlaw07_TableChecks.l0 (k + 1) y0 y1 y2 y3 y4)) ∧ (∀ y0 y1 y2 y3 y4 y5 y6 y7 y8 y9 y10 y11, LeO (crossroadlaw07_TableChecks.l1 k y0 y1 y2 y3 y4 y5 y6 y7 y8 y9 y10 y11) (crossroadlaw07_TableChecks.l1 (k + 1) y0 y1 y2 y3 y4 y5 y6 y7 y8 y9 y10 y11)) ∧ (∀ y0 y1, LeO (crossroadlaw07_TableChecks.j2 k y0 y1) (crossroadlaw07_TableChecks.j2 (k + 1) y0 y1)) ∧ (∀ y0 y1 y2 y3 y4, LeO (crossroadlaw07_TableChecks.l2 k y0 y1 y2 y3 y4) (crossroadlaw07_TableChecks.l2 (k + 1) y0 y1 y2 y3 y4)) ∧ (∀ y0 y1 y2 y3 y4 y5 y6 y7 y8 y9 y10 y11 y12, LeO (crossroadlaw07_TableChecks.l3 k y0 y1 y2 y3 y4 y5 y6 y7 y8 y9 y10 y11 y12) (crossroadlaw07_TableChecks.l3 (k + 1) y0 y1 y2 y3 y4 y5 y6 y7 y8 y9 y10 y11 y12)) ∧ (∀ y0 y1 y2 y3 y4 y5 y6 y7 y8, LeO (crossroadlaw07_TableChecks.j5 k y0 y1 y2 y3 y4 y5 y6 y7 y8) (crossroadlaw07_TableChecks.j5 (k + 1) y0 y1 y2 y3 y4 y5 y6 y7 y8))
  | 0 => ⟨fun _ _ _ _ _ r h => by simp [crossroadlaw07_TableChecks.l0] at h, fun _ _ _ _ _ _ _ _ _ _ _ _ r h => by simp [crossroadlaw07_TableChecks.l1] at h, fun _ _ r h => by simp [crossroadlaw07_TableChecks.j2] at h, fun _ _ _ _ _ r h => by simp [crossroadlaw07_TableChecks.l2] at h, fun _ _ _ _ _ _ _ _ _ _ _ _ _ r h => by simp [crossroadlaw07_TableChecks.l3] at h, fun _ _ _ _ _ _ _ _ _ r h => by simp [crossroadlaw07_TableChecks.j5] at h⟩
  | k + 1 => by
    obtain ⟨ih0, ih1, ih2, ih3, ih4, ih5⟩ := crossroadlaw07_TableChecks.mono_l k
    refine ⟨?_, ?_, ?_, ?_, ?_, ?_⟩
    · intro y0 y1 y2 y3 y4
      unfold crossroadlaw07_TableChecks.l0
      repeat' first
      | (with_reducible exact ih0 _ _ _ _ _)
      | (with_reducible exact ih1 _ _ _ _ _ _ _ _ _ _ _ _)
      | (with_reducible exact ih2 _ _)
      | (with_reducible exact ih3 _ _ _ _ _)
      | (with_reducible exact ih4 _ _ _ _ _ _ _ _ _ _ _ _ _)
      | (with_reducible exact ih5 _ _ _ _ _ _ _ _ _)
      | (with_reducible exact ascii_Token.mono _ _)
      | (with_reducible exact crossroadlaw07_fit.mono _)
      | (with_reducible exact crossroadlaw07_light.mono _ _)
      | (with_reducible exact path_Pattern.mono _ _)
      | (with_reducible exact path_Shape.mono _ _)
      | (with_reducible exact table_Check.mono _ _)
      | (with_reducible exact table_Right.mono _ _ _ _)
      | (with_reducible exact LeO.refl _)
      | (with_reducible exact LeO.none _)
      | (with_reducible refine LeO.ite ?_ ?_)
      | (with_reducible refine LeO.bind ?_ (fun _ => ?_))
      | exact ih0 _ _ _ _ _
      | exact ih1 _ _ _ _ _ _ _ _ _ _ _ _
      | exact ih2 _ _
      | exact ih3 _ _ _ _ _
      | exact ih4 _ _ _ _ _ _ _ _ _ _ _ _ _
      | exact ih5 _ _ _ _ _ _ _ _ _
      | exact ascii_Token.mono _ _
      | exact crossroadlaw07_fit.mono _
      | exact crossroadlaw07_light.mono _ _
      | exact path_Pattern.mono _ _
      | exact path_Shape.mono _ _
      | exact table_Check.mono _ _
      | exact table_Right.mono _ _ _ _
      | exact LeO.none _
      | refine LeO.ite ?_ ?_
      | refine LeO.bind ?_ (fun _ => ?_)
    · intro y0 y1 y2 y3 y4 y5 y6 y7 y8 y9 y10 y11
      unfold crossroadlaw07_TableChecks.l1
      repeat' first
      | (with_reducible exact ih0 _ _ _ _ _)
      | (with_reducible exact ih1 _ _ _ _ _ _ _ _ _ _ _ _)
      | (with_reducible exact ih2 _ _)
      | (with_reducible exact ih3 _ _ _ _ _)
      | (with_reducible exact ih4 _ _ _ _ _ _ _ _ _ _ _ _ _)
      | (with_reducible exact ih5 _ _ _ _ _ _ _ _ _)
      | (with_reducible exact ascii_Token.mono _ _)
      | (with_reducible exact crossroadlaw07_fit.mono _)
      | (with_reducible exact crossroadlaw07_light.mono _ _)
      | (with_reducible exact path_Pattern.mono _ _)
      | (with_reducible exact path_Shape.mono _ _)
      | (with_reducible exact table_Check.mono _ _)
      | (with_reducible exact table_Right.mono _ _ _ _)
      | (with_reducible exact LeO.refl _)
      | (with_reducible exact LeO.none _)
      | (with_reducible refine LeO.ite ?_ ?_)
      | (with_reducible refine LeO.bind ?_ (fun _ => ?_))
      | exact ih0 _ _ _ _ _
      | exact ih1 _ _ _ _ _ _ _ _ _ _ _ _
      | exact ih2 _ _
      | exact ih3 _ _ _ _ _
      | exact ih4 _ _ _ _ _ _ _ _ _ _ _ _ _
      | exact ih5 _ _ _ _ _ _ _ _ _
      | exact ascii_Token.mono _ _
      | exact crossroadlaw07_fit.mono _
      | exact crossroadlaw07_light.mono _ _
      | exact path_Pattern.mono _ _
      | exact path_Shape.mono _ _
      | exact table_Check.mono _ _
      | exact table_Right.mono _ _ _ _
      | exact LeO.none _
      | refine LeO.ite ?_ ?_
      | refine LeO.bind ?_ (fun _ => ?_)
    · intro y0 y1
      unfold crossroadlaw07_TableChecks.j2
      repeat' first
      | (with_reducible exact ih0 _ _ _ _ _)
      | (with_reducible exact ih1 _ _ _ _ _ _ _ _ _ _ _ _)
      | (with_reducible exact ih2 _ _)
      | (with_reducible exact ih3 _ _ _ _ _)
      | (with_reducible exact ih4 _ _ _ _ _ _ _ _ _ _ _ _ _)
      | (with_reducible exact ih5 _ _ _ _ _ _ _ _ _)
      | (with_reducible exact ascii_Token.mono _ _)
      | (with_reducible exact crossroadlaw07_fit.mono _)
      | (with_reducible exact crossroadlaw07_light.mono _ _)
      | (with_reducible exact path_Pattern.mono _ _)
      | (with_reducible exact path_Shape.mono _ _)
      | (with_reducible exact table_Check.mono _ _)
      | (with_reducible exact table_Right.mono _ _ _ _)
      | (with_reducible exact LeO.refl _)
      | (with_reducible exact LeO.none _)
      | (with_reducible refine LeO.ite ?_ ?_)
      | (with_reducible refine LeO.bind ?_ (fun _ => ?_))
      | exact ih0 _ _ _ _ _
      | exact ih1 _ _ _ _ _ _ _ _ _ _ _ _
      | exact ih2 _ _
      | exact ih3 _ _ _ _ _
      | exact ih4 _ _ _ _ _ _ _ _ _ _ _ _ _
      | exact ih5 _ _ _ _ _ _ _ _ _
      | exact ascii_Token.mono _ _
      | exact crossroadlaw07_fit.mono _
      | exact crossroadlaw07_light.mono _ _
      | exact path_Pattern.mono _ _
      | exact path_Shape.mono _ _
      | exact table_Check.mono _ _
      | exact table_Right.mono _ _ _ _
      | exact LeO.none _
      | refine LeO.ite ?_ ?_
      | refine LeO.bind ?_ (fun _ => ?_)
    · intro y0 y1 y2 y3 y4
      unfold crossroadlaw07_TableChecks.l2
      repeat' first
      | (with_reducible exact ih0 _ _ _ _ _)
      | (with_reducible exact ih1 _ _ _ _ _ _ _ _ _ _ _ _)
      | (with_reducible exact ih2 _ _)
      | (with_reducible exact ih3 _ _ _ _ _)
      | (with_reducible exact ih4 _ _ _ _ _ _ _ _ _ _ _ _ _)
      | (with_reducible exact ih5 _ _ _ _ _ _ _ _ _)
      | (with_reducible exact ascii_Token.mono _ _)
      | (with_reducible exact crossroadlaw07_fit.mono _)
      | (with_reducible exact crossroadlaw07_light.mono _ _)
      | (with_reducible exact path_Pattern.mono _ _)
      | (with_reducible exact path_Shape.mono _ _)
      | (with_reducible exact table_Check.mono _ _)
      | (with_reducible exact table_Right.mono _ _ _ _)
      | (with_reducible exact LeO.refl _)
      | (with_reducible exact LeO.none _)
      | (with_reducible refine LeO.ite ?_ ?_)
      | (with_reducible refine LeO.bind ?_ (fun _ => ?_))
      | exact ih0 _ _ _ _ _
      | exact ih1 _ _ _ _ _ _ _ _ _ _ _ _
      | exact ih2 _ _
      | exact ih3 _ _ _ _ _
      | exact ih4 _ _ _ _ _ _ _ _ _ _ _ _ _
      | exact ih5 _ _ _ _ _ _ _ _ _
      | exact ascii_Token.mono _ _
      | exact crossroadlaw07_fit.mono _
      | exact crossroadlaw07_light.mono _ _
      | exact path_Pattern.mono _ _
      | exact path_Shape.mono _ _
      | exact table_Check.mono _ _
      | exact table_Right.mono _ _ _ _
      | exact LeO.none _
      | refine LeO.ite ?_ ?_
      | refine LeO.bind ?_ (fun _ => ?_)
    · intro y0 y1 y2 y3 y4 y5 y6 y7 y8 y9 y10 y11 y12
      unfold crossroadlaw07_TableChecks.l3
      repeat' first
      | (with_reducible exact ih0 _ _ _ _ _)
      | (with_reducible exact ih1 _ _ _ _ _ _ _ _ _ _ _ _)
      | (with_reducible exact ih2 _ _)
      | (with_reducible exact ih3 _ _ _ _ _)
      | (with_reducible exact ih4 _ _ _ _ _ _ _ _ _ _ _ _ _)
      | (with_reducible exact ih5 _ _ _ _ _ _ _ _ _)
      | (with_reducible exact ascii_Token.mono _ _)
      | (with_reducible exact crossroadlaw07_fit.mono _)
      | (with_reducible exact crossroadlaw07_light.mono _ _)
      | (with_reducible exact path_Pattern.mono _ _)
      | (with_reducible exact path_Shape.mono _ _)
      | (with_reducible exact table_Check.mono _ _)
      | (with_reducible exact table_Right.mono _ _ _ _)
      | (with_reducible exact LeO.refl _)
      | (with_reducible exact LeO.none _)
      | (with_reducible refine LeO.ite ?_ ?_)
      | (with_reducible refine LeO.bind ?_ (fun _ => ?_))
      | exact ih0 _ _ _ _ _
      | exact ih1 _ _ _ _ _ _ _ _ _ _ _ _
      | exact ih2 _ _
      | exact ih3 _ _ _ _ _
      | exact ih4 _ _ _ _ _ _ _ _ _ _ _ _ _
      | exact ih5 _ _ _ _ _ _ _ _ _
      | exact ascii_Token.mono _ _
      | exact crossroadlaw07_fit.mono _
      | exact crossroadlaw07_light.mono _ _
      | exact path_Pattern.mono _ _
      | exact path_Shape.mono _ _
      | exact table_Check.mono _ _
      | exact table_Right.mono _ _ _ _
      | exact LeO.none _
      | refine LeO.ite ?_ ?_
      | refine LeO.bind ?_ (fun _ => ?_)
    · intro y0 y1 y2 y3 y4 y5 y6 y7 y8
      unfold crossroadlaw07_TableChecks.j5
      repeat' first
      | (with_reducible exact ih0 _ _ _ _ _)
      | (with_reducible exact ih1 _ _ _ _ _ _ _ _ _ _ _ _)
      | (with_reducible exact ih2 _ _)
      | (with_reducible exact ih3 _ _ _ _ _)
      | (with_reducible exact ih4 _ _ _ _ _ _ _ _ _ _ _ _ _)
      | (with_reducible exact ih5 _ _ _ _ _ _ _ _ _)
      | (with_reducible exact ascii_Token.mono _ _)
      | (with_reducible exact crossroadlaw07_fit.mono _)
      | (with_reducible exact crossroadlaw07_light.mono _ _)
      | (with_reducible exact path_Pattern.mono _ _)
      | (with_reducible exact path_Shape.mono _ _)
      | (with_reducible exact table_Check.mono _ _)
      | (with_reducible exact table_Right.mono _ _ _ _)
      | (with_reducible exact LeO.refl _)
      | (with_reducible exact LeO.none _)
      | (with_reducible refine LeO.ite ?_ ?_)
      | (with_reducible refine LeO.bind ?_ (fun _ => ?_))
      | exact ih0 _ _ _ _ _
      | exact ih1 _ _ _ _ _ _ _ _ _ _ _ _
      | exact ih2 _ _
      | exact ih3 _ _ _ _ _
      | exact ih4 _ _ _ _ _ _ _ _ _ _ _ _ _
      | exact ih5 _ _ _ _ _ _ _ _ _
      | exact ascii_Token.mono _ _
      | exact crossroadlaw07_fit.mono _
      | exact crossroadlaw07_light.mono _ _
      | exact path_Pattern.mono _ _
      | exact path_Shape.mono _ _
      | exact table_Check.mono _ _
      | exact table_Right.mono _ _ _ _
      | exact LeO.none _
      | refine LeO.ite ?_ ?_
      | refine LeO.bind ?_ (fun _ => ?_)
theorem crossroadlaw07_TableChecks.mono : ∀ a0 k, LeO (crossroadlaw07_TableChecks.f k a0) (crossroadlaw07_TableChecks.f (k + 1) a0) := by
  intro a0 k
  obtain ⟨ih0, ih1, ih2, ih3, ih4, ih5⟩ := crossroadlaw07_TableChecks.mono_l k
  unfold crossroadlaw07_TableChecks.f
  repeat' first
      | (with_reducible exact ih0 _ _ _ _ _)
      | (with_reducible exact ih1 _ _ _ _ _ _ _ _ _ _ _ _)
      | (with_reducible exact ih2 _ _)
      | (with_reducible exact ih3 _ _ _ _ _)
      | (with_reducible exact ih4 _ _ _ _ _ _ _ _ _ _ _ _ _)
      | (with_reducible exact ih5 _ _ _ _ _ _ _ _ _)
      | (with_reducible exact ascii_Token.mono _ _)
      | (with_reducible exact crossroadlaw07_fit.mono _)
      | (with_reducible exact crossroadlaw07_light.mono _ _)
      | (with_reducible exact path_Pattern.mono _ _)
      | (with_reducible exact path_Shape.mono _ _)
      | (with_reducible exact table_Check.mono _ _)
      | (with_reducible exact table_Right.mono _ _ _ _)
      | (with_reducible exact LeO.refl _)
      | (with_reducible exact LeO.none _)
      | (with_reducible refine LeO.ite ?_ ?_)
      | (with_reducible refine LeO.bind ?_ (fun _ => ?_))
      | exact ih0 _ _ _ _ _
      | exact ih1 _ _ _ _ _ _ _ _ _ _ _ _
      | exact ih2 _ _
      | exact ih3 _ _ _ _ _
      | exact ih4 _ _ _ _ _ _ _ _ _ _ _ _ _
      | exact ih5 _ _ _ _ _ _ _ _ _
      | exact ascii_Token.mono _ _
      | exact crossroadlaw07_fit.mono _
      | exact crossroadlaw07_light.mono _ _
      | exact path_Pattern.mono _ _
      | exact path_Shape.mono _ _
      | exact table_Check.mono _ _
      | exact table_Right.mono _ _ _ _
      | exact LeO.none _
      | refine LeO.ite ?_ ?_
      | refine LeO.bind ?_ (fun _ => ?_)
set_option maxHeartbeats 8000000 in
set_option maxRecDepth 100000 in
theorem crossroadlaw07_TableChecks.calls (k : Nat) (A0 : Option Addr) (c0 : Nat) (l0 : List (S27)) (r : Bool) (w : World) (hr0 : Kd.C k27 w A0 l0.length l0) (hc0 : l0.length ≤ c0) (h : crossroadlaw07_TableChecks.f k l0 = some r) (hG : GlobOK w) :
    Calls Tryd.prog 3 #[.slice A0 l0.length c0] w fun e w' => e = .returned (.bool r) ∧ Below w.heap.size w w' := by
  have hu27 := Tryd.underlying27
  have HR0 := Aside0.mk hr0
  have HC0 := Aside0.mk hc0
  clear hr0 hc0
  have HG := Aside0.mk hG
  clear hG
  have HB := Aside0.mk (Below.refl w.heap.size w)
  have H : ((crossroadlaw07_fit.f k).bind fun t174 => (if t174 = true then ((crossroadlaw07_light.f k l0).bind fun t175 => (if t175 = true then (crossroadlaw07_TableChecks.l0 k l0 0 l0 (l0.length : Int) 0) else (some true))) else (some false))) = some r := h
  clear h
  replace H := Option.bind_eq_some_iff.mp H
  obtain ⟨t174, A20, H⟩ := H
  replace H : (if t174 = true then ((crossroadlaw07_light.f k l0).bind fun t175 => (if t175 = true then (crossroadlaw07_TableChecks.l0 k l0 0 l0 (l0.length : Int) 0) else (some true))) else (some false)) = some r := H
  have A2 := Aside0.mk A20
  clear A20
  by_cases c3 : t174 = true
  · subst c3
    have H1 : ((crossroadlaw07_light.f k l0).bind fun t175 => (if t175 = true then (crossroadlaw07_TableChecks.l0 k l0 0 l0 (l0.length : Int) 0) else (some true))) = some r := by rw [if_pos rfl] at H; exact H
    clear H
    have H := H1
    clear H1
    replace H := Option.bind_eq_some_iff.mp H
    obtain ⟨t175, A40, H⟩ := H
    replace H : (if t175 = true then (crossroadlaw07_TableChecks.l0 k l0 0 l0 (l0.length : Int) 0) else (some true)) = some r := H
    have A4 := Aside0.mk A40
    clear A40
    by_cases c5 : t175 = true
    · subst c5
      have H1 : (crossroadlaw07_TableChecks.l0 k l0 0 l0 (l0.length : Int) 0) = some r := by rw [if_pos rfl] at H; exact H
      clear H
      have H := H1
      clear H1
      have H' := Aside0.mk H
      clear H
      go_enter Tryd.func3, Tryd.ntmps3
      go_wp2_with (first | (go_at_call 9; (with_reducible refine (crossroadlaw07_fit.calls k  true _ A2.out ?glob14).mono ?_); (case glob14 => exact GlobOK.below HG.out (by repeat (first | (with_reducible first | exact HB.out | apply below_alloc | apply pw_below_drewN | apply below_drew1 | refine below_set ?_ (Aside0.out (by assumption))) | exact HB.out)) rfl); rintro e w6 ⟨rfl, hb⟩; have n0_ := Aside0.mk (below_step (by repeat (first | (with_reducible first | exact HB.out | apply below_alloc | apply pw_below_drewN | apply below_drew1) | exact HB.out)) hb); clear HB; have HB := n0_; clear n0_; (try clear hb); (try clear hb2); (try clear hk); (try clear hi)) | (go_at_call 10; (with_reducible refine (crossroadlaw07_light.calls k _ _ l0 true _ ?side1 ?side2 A4.out).mono ?_); (case side1 => repeat (first | exact (Kd.C_below HR0.out HB.out) | (with_reducible refine Kd.C_alloc ?_ _) | (with_reducible refine Kd.C_drewN ?_ _) | (with_reducible refine Kd.C_drew ?_))); (case side2 => exact HC0.out); rintro e w7 ⟨rfl, hb⟩; have n0_ := Aside0.mk (below_step (by repeat (first | (with_reducible first | exact HB.out | apply below_alloc | apply pw_below_drewN | apply below_drew1) | exact HB.out)) hb); clear HB; have HB := n0_; clear n0_; (try clear hb); (try clear hb2); (try clear hk); (try clear hi)))
      repeat (go_quiet (first | (go_at_call 9; (with_reducible refine (crossroadlaw07_fit.calls k  true _ A2.out ?glob15).mono ?_); (case glob15 => exact GlobOK.below HG.out (by repeat (first | (with_reducible first | exact HB.out | apply below_alloc | apply pw_below_drewN | apply below_drew1 | refine below_set ?_ (Aside0.out (by assumption))) | exact HB.out)) rfl); rintro e w6 ⟨rfl, hb⟩; have n0_ := Aside0.mk (below_step (by repeat (first | (with_reducible first | exact HB.out | apply below_alloc | apply pw_below_drewN | apply below_drew1) | exact HB.out)) hb); clear HB; have HB := n0_; clear n0_; (try clear hb); (try clear hb2); (try clear hk); (try clear hi)) | (go_at_call 10; (with_reducible refine (crossroadlaw07_light.calls k _ _ l0 true _ ?side1 ?side2 A4.out).mono ?_); (case side1 => repeat (first | exact (Kd.C_below HR0.out HB.out) | (with_reducible refine Kd.C_alloc ?_ _) | (with_reducible refine Kd.C_drewN ?_ _) | (with_reducible refine Kd.C_drew ?_))); (case side2 => exact HC0.out); rintro e w7 ⟨rfl, hb⟩; have n0_ := Aside0.mk (below_step (by repeat (first | (with_reducible first | exact HB.out | apply below_alloc | apply pw_below_drewN | apply below_drew1) | exact HB.out)) hb); clear HB; have HB := n0_; clear n0_; (try clear hb); (try clear hb2); (try clear hk); (try clear hi))); try go_wp2_with (first | (go_at_call 9; (with_reducible refine (crossroadlaw07_fit.calls k  true _ A2.out ?glob16).mono ?_); (case glob16 => exact GlobOK.below HG.out (by repeat (first | (with_reducible first | exact HB.out | apply below_alloc | apply pw_below_drewN | apply below_drew1 | refine below_set ?_ (Aside0.out (by assumption))) | exact HB.out)) rfl); rintro e w6 ⟨rfl, hb⟩; have n0_ := Aside0.mk (below_step (by repeat (first | (with_reducible first | exact HB.out | apply below_alloc | apply pw_below_drewN | apply below_drew1) | exact HB.out)) hb); clear HB; have HB := n0_; clear n0_; (try clear hb); (try clear hb2); (try clear hk); (try clear hi)) | (go_at_call 10; (with_reducible refine (crossroadlaw07_light.calls k _ _ l0 true _ ?side1 ?side2 A4.out).mono ?_); (case side1 => repeat (first | exact (Kd.C_below HR0.out HB.out) | (with_reducible refine Kd.C_alloc ?_ _) | (with_reducible refine Kd.C_drewN ?_ _) | (with_reducible refine Kd.C_drew ?_))); (case side2 => exact HC0.out); rintro e w7 ⟨rfl, hb⟩; have n0_ := Aside0.mk (below_step (by repeat (first | (with_reducible first | exact HB.out | apply below_alloc | apply pw_below_drewN | apply below_drew1) | exact HB.out)) hb); clear HB; have HB := n0_; clear n0_; (try clear hb); (try clear hb2); (try clear hk); (try clear hi))))
      go_loopg [3, 25] k (fun kq v3 v25 w' => ∃ (x3_1 : Int) (x25_1 : Int), v3 = .int .i64 x3_1 ∧ v25 = .int .i64 x25_1 ∧ Aside0 (crossroadlaw07_TableChecks.l0 kq l0 x3_1 l0 (l0.length : Int) x25_1 = some r) ∧ Aside0 (kq ≤ k) ∧ Aside0 (Below w.heap.size w w'))
      case atStart => exact ⟨(0), (0), (by first | rfl | (simp; done) | (simp [*]; done)), (by first | rfl | (simp; done) | (simp [*]; done)), H', ⟨Nat.le_refl _⟩, ⟨by repeat (first | (with_reducible first | exact HB.out | apply below_alloc | apply pw_below_drewN | apply below_drew1) | exact HB.out)⟩⟩
      case round =>
        clear H'
        try clear p2
        try clear c3
        try clear c5
        obtain ⟨x3_1, x25_1, rfl, rfl, HA, HK1, HB⟩ := hrel
        cases gk with
        | zero => exact absurd HA.out (by simp [crossroadlaw07_TableChecks.l0])
        | succ k1 =>
          have H := HA.out
          clear HA
          simp only [crossroadlaw07_TableChecks.l0] at H
          by_cases c8 : x25_1 < (l0.length : Int)
          · rw [if_pos c8] at H
            have c8b0 : decide (x25_1 < (l0.length : Int)) = true := decide_eq_true c8
            clear c8
            by_cases c9 : 0 ≤ x25_1
            · rw [if_pos c9] at H
              have c9b0 : decide (0 ≤ x25_1) = true := decide_eq_true c9
              clear c9
              by_cases c10 : x25_1 < (l0.length : Int)
              · rw [if_pos c10] at H
                have c10b0 : decide (x25_1 < (l0.length : Int)) = true := decide_eq_true c10
                clear c10
                replace H := Option.bind_eq_some_iff.mp H
                obtain ⟨⟨t178, t179⟩, A110, H⟩ := H
                replace H : (crossroadlaw07_TableChecks.l1 k1 l0 x3_1 t178 t179 l0 (l0.length : Int) x25_1 x25_1 0 ((rd_T27 l0 x25_1).f0) ((rd_T27 l0 x25_1).f1) ((rd_T27 l0 x25_1).f2)) = some r := H
                have A11 := Aside0.mk A110
                clear A110
                have H' := Aside0.mk H
                clear H
                have p176 : 0 ≤ (x25_1 : Int) := of_decide_eq_true (by first | (with_reducible assumption) | assumption)
                have q176 : x25_1 < (l0.length : Int) := of_decide_eq_true (by first | (with_reducible assumption) | assumption)
                obtain ⟨ad176, e176, hx176_0, hx176_1, hx176_2⟩ := at_T27 HR0.out x25_1 p176 q176
                cases e176
                replace hx176_0 := (HB.out.cell (World.block_lt_of_cell? w _ hx176_0)).trans hx176_0
                replace hx176_1 := (HB.out.cell (World.block_lt_of_cell? w _ hx176_1)).trans hx176_1
                replace hx176_2 := (HB.out.cell (World.block_lt_of_cell? w _ hx176_2)).trans hx176_2
                replace p176 := eq_true p176
                replace q176 := eq_true q176
                go_wp2_with (first | ((with_reducible refine gate_dst (N := 5) rfl ?_); refine box_event ?hg (N := 5) ?hd (cs := #[.string (⟨#[]⟩ : ByteArray), .string (⟨#[]⟩ : ByteArray), .string (⟨#[]⟩ : ByteArray)]) (t := 27) ?hr ?_; (case hd => rfl); (case hg => rfl); (case hr => first | (go_simp; done) | (go_simp; rfl)); intro gb177 hg w12 hbox hb; have n0_ := Aside0.mk (below_step (by repeat (first | (with_reducible first | exact HB.out | apply below_alloc | apply pw_below_drewN | apply below_drew1) | exact HB.out)) hb); have n1_ := Aside0.mk (hbox); have n2_ := Aside0.mk ((by rw [hg]; exact (below_size (by repeat (first | (with_reducible first | exact HB.out | apply below_alloc | apply pw_below_drewN | apply below_drew1) | exact HB.out))) : w.heap.size ≤ gb177)); have n3_ := Aside0.mk ((by rw [hg]; exact (below_size (by repeat (first | (with_reducible first | exact HB.out | apply below_alloc | apply pw_below_drewN | apply below_drew1) | exact HB.out))) : w.heap.size ≤ gb177)); clear HB; have HB := n0_; have BK177 := n1_; have GW177 := n2_; have GE177 := n3_; clear n0_ n1_ n2_ n3_; clear hb hbox hg; have hcz13_0 : w12.cell? ⟨gb177, 0, none⟩ = some (.string (⟨#[]⟩ : ByteArray)) := (blk_cell BK177.out 0).trans rfl; have hcz13_1 : w12.cell? ⟨gb177, 1, none⟩ = some (.string (⟨#[]⟩ : ByteArray)) := (blk_cell BK177.out 1).trans rfl; have hcz13_2 : w12.cell? ⟨gb177, 2, none⟩ = some (.string (⟨#[]⟩ : ByteArray)) := (blk_cell BK177.out 2).trans rfl; have hfz13_0 := blk_frozen BK177.out 0; have hfz13_1 := blk_frozen BK177.out 1; have hfz13_2 := blk_frozen BK177.out 2) | (go_at_call 11; (with_reducible refine (path_Pattern.calls k1 ((rd_T27 l0 x25_1).f1) t178 t179 _ A11.out).mono ?_); rintro e w14 ⟨v180, rfl, ho0, hb⟩; have n0_ := Aside0.mk (Kd.R_lower ho0 (below_size (by repeat (first | (with_reducible first | exact HB.out | apply below_alloc | apply pw_below_drewN | apply below_drew1 | refine below_set ?_ GE177.out) | exact HB.out)))); have n1_ := Aside0.mk (blk_below (g := gb177) (o := .cells #[.string ((rd_T27 l0 x25_1).f0), .string ((rd_T27 l0 x25_1).f1), .string ((rd_T27 l0 x25_1).f2)] 27 (0, 0)) (by (with_reducible repeat (first | refine blk_drewN ?_ _ | refine blk_drew ?_ | refine blk_alloc ?_ _)); refine blk_put (cs := #[.string ((rd_T27 l0 x25_1).f0), .string ((rd_T27 l0 x25_1).f1), .string (⟨#[]⟩ : ByteArray)]) ?_ 2 _ rfl; (with_reducible repeat (first | refine blk_drewN ?_ _ | refine blk_drew ?_ | refine blk_alloc ?_ _)); refine blk_put (cs := #[.string ((rd_T27 l0 x25_1).f0), .string (⟨#[]⟩ : ByteArray), .string (⟨#[]⟩ : ByteArray)]) ?_ 1 _ rfl; (with_reducible repeat (first | refine blk_drewN ?_ _ | refine blk_drew ?_ | refine blk_alloc ?_ _)); refine blk_put (cs := #[.string (⟨#[]⟩ : ByteArray), .string (⟨#[]⟩ : ByteArray), .string (⟨#[]⟩ : ByteArray)]) ?_ 0 _ rfl; (with_reducible repeat (first | refine blk_drewN ?_ _ | refine blk_drew ?_ | refine blk_alloc ?_ _)); exact BK177.out) hb); have n2_ := Aside0.mk (below_step (by repeat (first | (with_reducible first | exact HB.out | apply below_alloc | apply pw_below_drewN | apply below_drew1 | refine below_set ?_ GE177.out) | exact HB.out)) hb); clear BK177; clear HB; have HO181 := n0_; have BK177 := n1_; have HB := n2_; clear n0_ n1_ n2_; (try clear hb); (try clear hb2); (try clear hk); (try clear hi); (try clear ho0)))
                repeat (go_quiet (first | ((with_reducible refine gate_dst (N := 5) rfl ?_); refine box_event ?hg (N := 5) ?hd (cs := #[.string (⟨#[]⟩ : ByteArray), .string (⟨#[]⟩ : ByteArray), .string (⟨#[]⟩ : ByteArray)]) (t := 27) ?hr ?_; (case hd => rfl); (case hg => rfl); (case hr => first | (go_simp; done) | (go_simp; rfl)); intro gb177 hg w12 hbox hb; have n0_ := Aside0.mk (below_step (by repeat (first | (with_reducible first | exact HB.out | apply below_alloc | apply pw_below_drewN | apply below_drew1) | exact HB.out)) hb); have n1_ := Aside0.mk (hbox); have n2_ := Aside0.mk ((by rw [hg]; exact (below_size (by repeat (first | (with_reducible first | exact HB.out | apply below_alloc | apply pw_below_drewN | apply below_drew1) | exact HB.out))) : w.heap.size ≤ gb177)); have n3_ := Aside0.mk ((by rw [hg]; exact (below_size (by repeat (first | (with_reducible first | exact HB.out | apply below_alloc | apply pw_below_drewN | apply below_drew1) | exact HB.out))) : w.heap.size ≤ gb177)); clear HB; have HB := n0_; have BK177 := n1_; have GW177 := n2_; have GE177 := n3_; clear n0_ n1_ n2_ n3_; clear hb hbox hg; have hcz13_0 : w12.cell? ⟨gb177, 0, none⟩ = some (.string (⟨#[]⟩ : ByteArray)) := (blk_cell BK177.out 0).trans rfl; have hcz13_1 : w12.cell? ⟨gb177, 1, none⟩ = some (.string (⟨#[]⟩ : ByteArray)) := (blk_cell BK177.out 1).trans rfl; have hcz13_2 : w12.cell? ⟨gb177, 2, none⟩ = some (.string (⟨#[]⟩ : ByteArray)) := (blk_cell BK177.out 2).trans rfl; have hfz13_0 := blk_frozen BK177.out 0; have hfz13_1 := blk_frozen BK177.out 1; have hfz13_2 := blk_frozen BK177.out 2) | (go_at_call 11; (with_reducible refine (path_Pattern.calls k1 ((rd_T27 l0 x25_1).f1) t178 t179 _ A11.out).mono ?_); rintro e w14 ⟨v180, rfl, ho0, hb⟩; have n0_ := Aside0.mk (Kd.R_lower ho0 (below_size (by repeat (first | (with_reducible first | exact HB.out | apply below_alloc | apply pw_below_drewN | apply below_drew1 | refine below_set ?_ GE177.out) | exact HB.out)))); have n1_ := Aside0.mk (blk_below (g := gb177) (o := .cells #[.string ((rd_T27 l0 x25_1).f0), .string ((rd_T27 l0 x25_1).f1), .string ((rd_T27 l0 x25_1).f2)] 27 (0, 0)) (by (with_reducible repeat (first | refine blk_drewN ?_ _ | refine blk_drew ?_ | refine blk_alloc ?_ _)); refine blk_put (cs := #[.string ((rd_T27 l0 x25_1).f0), .string ((rd_T27 l0 x25_1).f1), .string (⟨#[]⟩ : ByteArray)]) ?_ 2 _ rfl; (with_reducible repeat (first | refine blk_drewN ?_ _ | refine blk_drew ?_ | refine blk_alloc ?_ _)); refine blk_put (cs := #[.string ((rd_T27 l0 x25_1).f0), .string (⟨#[]⟩ : ByteArray), .string (⟨#[]⟩ : ByteArray)]) ?_ 1 _ rfl; (with_reducible repeat (first | refine blk_drewN ?_ _ | refine blk_drew ?_ | refine blk_alloc ?_ _)); refine blk_put (cs := #[.string (⟨#[]⟩ : ByteArray), .string (⟨#[]⟩ : ByteArray), .string (⟨#[]⟩ : ByteArray)]) ?_ 0 _ rfl; (with_reducible repeat (first | refine blk_drewN ?_ _ | refine blk_drew ?_ | refine blk_alloc ?_ _)); exact BK177.out) hb); have n2_ := Aside0.mk (below_step (by repeat (first | (with_reducible first | exact HB.out | apply below_alloc | apply pw_below_drewN | apply below_drew1 | refine below_set ?_ GE177.out) | exact HB.out)) hb); clear BK177; clear HB; have HO181 := n0_; have BK177 := n1_; have HB := n2_; clear n0_ n1_ n2_; (try clear hb); (try clear hb2); (try clear hk); (try clear hi); (try clear ho0))); try go_wp2_with (first | ((with_reducible refine gate_dst (N := 5) rfl ?_); refine box_event ?hg (N := 5) ?hd (cs := #[.string (⟨#[]⟩ : ByteArray), .string (⟨#[]⟩ : ByteArray), .string (⟨#[]⟩ : ByteArray)]) (t := 27) ?hr ?_; (case hd => rfl); (case hg => rfl); (case hr => first | (go_simp; done) | (go_simp; rfl)); intro gb177 hg w12 hbox hb; have n0_ := Aside0.mk (below_step (by repeat (first | (with_reducible first | exact HB.out | apply below_alloc | apply pw_below_drewN | apply below_drew1) | exact HB.out)) hb); have n1_ := Aside0.mk (hbox); have n2_ := Aside0.mk ((by rw [hg]; exact (below_size (by repeat (first | (with_reducible first | exact HB.out | apply below_alloc | apply pw_below_drewN | apply below_drew1) | exact HB.out))) : w.heap.size ≤ gb177)); have n3_ := Aside0.mk ((by rw [hg]; exact (below_size (by repeat (first | (with_reducible first | exact HB.out | apply below_alloc | apply pw_below_drewN | apply below_drew1) | exact HB.out))) : w.heap.size ≤ gb177)); clear HB; have HB := n0_; have BK177 := n1_; have GW177 := n2_; have GE177 := n3_; clear n0_ n1_ n2_ n3_; clear hb hbox hg; have hcz13_0 : w12.cell? ⟨gb177, 0, none⟩ = some (.string (⟨#[]⟩ : ByteArray)) := (blk_cell BK177.out 0).trans rfl; have hcz13_1 : w12.cell? ⟨gb177, 1, none⟩ = some (.string (⟨#[]⟩ : ByteArray)) := (blk_cell BK177.out 1).trans rfl; have hcz13_2 : w12.cell? ⟨gb177, 2, none⟩ = some (.string (⟨#[]⟩ : ByteArray)) := (blk_cell BK177.out 2).trans rfl; have hfz13_0 := blk_frozen BK177.out 0; have hfz13_1 := blk_frozen BK177.out 1; have hfz13_2 := blk_frozen BK177.out 2) | (go_at_call 11; (with_reducible refine (path_Pattern.calls k1 ((rd_T27 l0 x25_1).f1) t178 t179 _ A11.out).mono ?_); rintro e w14 ⟨v180, rfl, ho0, hb⟩; have n0_ := Aside0.mk (Kd.R_lower ho0 (below_size (by repeat (first | (with_reducible first | exact HB.out | apply below_alloc | apply pw_below_drewN | apply below_drew1 | refine below_set ?_ GE177.out) | exact HB.out)))); have n1_ := Aside0.mk (blk_below (g := gb177) (o := .cells #[.string ((rd_T27 l0 x25_1).f0), .string ((rd_T27 l0 x25_1).f1), .string ((rd_T27 l0 x25_1).f2)] 27 (0, 0)) (by (with_reducible repeat (first | refine blk_drewN ?_ _ | refine blk_drew ?_ | refine blk_alloc ?_ _)); refine blk_put (cs := #[.string ((rd_T27 l0 x25_1).f0), .string ((rd_T27 l0 x25_1).f1), .string (⟨#[]⟩ : ByteArray)]) ?_ 2 _ rfl; (with_reducible repeat (first | refine blk_drewN ?_ _ | refine blk_drew ?_ | refine blk_alloc ?_ _)); refine blk_put (cs := #[.string ((rd_T27 l0 x25_1).f0), .string (⟨#[]⟩ : ByteArray), .string (⟨#[]⟩ : ByteArray)]) ?_ 1 _ rfl; (with_reducible repeat (first | refine blk_drewN ?_ _ | refine blk_drew ?_ | refine blk_alloc ?_ _)); refine blk_put (cs := #[.string (⟨#[]⟩ : ByteArray), .string (⟨#[]⟩ : ByteArray), .string (⟨#[]⟩ : ByteArray)]) ?_ 0 _ rfl; (with_reducible repeat (first | refine blk_drewN ?_ _ | refine blk_drew ?_ | refine blk_alloc ?_ _)); exact BK177.out) hb); have n2_ := Aside0.mk (below_step (by repeat (first | (with_reducible first | exact HB.out | apply below_alloc | apply pw_below_drewN | apply below_drew1 | refine below_set ?_ GE177.out) | exact HB.out)) hb); clear BK177; clear HB; have HO181 := n0_; have BK177 := n1_; have HB := n2_; clear n0_ n1_ n2_; (try clear hb); (try clear hb2); (try clear hk); (try clear hi); (try clear ho0))))
                go_loopg [3, 37] k1 (fun kq v3 v37 w' => ∃ (x3_2 : Int) (x37_2 : Int), v3 = .int .i64 x3_2 ∧ v37 = .int .i64 x37_2 ∧ Aside0 (crossroadlaw07_TableChecks.l1 kq l0 x3_2 t178 t179 l0 (l0.length : Int) x25_1 x25_1 x37_2 ((rd_T27 l0 x25_1).f0) ((rd_T27 l0 x25_1).f1) ((rd_T27 l0 x25_1).f2) = some r) ∧ Aside0 (kq ≤ k1) ∧ Aside0 (Kd.R Kd.string 9 w' w.heap.size (fun _ => True) v180 t178) ∧ Aside0 (w'.heap[gb177]? = some (.cells #[.string ((rd_T27 l0 x25_1).f0), .string ((rd_T27 l0 x25_1).f1), .string ((rd_T27 l0 x25_1).f2)] 27 (0, 0))) ∧ Aside0 (Below w.heap.size w w'))
                case atStart => exact ⟨(x3_1), (0), (by first | rfl | (simp; done) | (simp [*]; done)), (by first | rfl | (simp; done) | (simp [*]; done)), H', ⟨Nat.le_refl _⟩, ⟨by (with_reducible repeat (first | apply Kd.R_alloc | apply Kd.R_drewN | apply Kd.R_drew)); exact HO181.out⟩, ⟨by (with_reducible repeat (first | refine blk_drewN ?_ _ | refine blk_drew ?_ | refine blk_alloc ?_ _)); exact BK177.out⟩, ⟨by repeat (first | (with_reducible first | exact HB.out | apply below_alloc | apply pw_below_drewN | apply below_drew1 | refine below_set ?_ GE177.out) | exact HB.out)⟩⟩
                case round =>
                  clear H'
                  try clear c1
                  try clear p1
                  try clear q1
                  try clear hx1
                  try clear p2
                  try clear c3
                  try clear c5
                  try clear c8
                  try clear c8b0
                  try clear c9
                  try clear c9b0
                  try clear c10
                  try clear c10b0
                  try clear hcz13_0
                  try clear hcz13_1
                  try clear hcz13_2
                  try clear hfz13_0
                  try clear hfz13_1
                  try clear hfz13_2
                  try clear hx176_0
                  try clear hx176_1
                  try clear hx176_2
                  try clear p176
                  try clear p2
                  try clear q176
                  obtain ⟨x3_2, x37_2, rfl, rfl, HA, HK2, HO_6, BK177, HB⟩ := hrel
                  cases gk with
                  | zero => exact absurd HA.out (by simp [crossroadlaw07_TableChecks.l1])
                  | succ k2 =>
                    have H := HA.out
                    clear HA
                    simp only [crossroadlaw07_TableChecks.l1] at H
                    by_cases c15 : x37_2 < x25_1
                    · rw [if_pos c15] at H
                      have c15b0 : decide (x37_2 < x25_1) = true := decide_eq_true c15
                      clear c15
                      by_cases c16 : 0 ≤ x37_2
                      · rw [if_pos c16] at H
                        have c16b0 : decide (0 ≤ x37_2) = true := decide_eq_true c16
                        clear c16
                        by_cases c17 : x37_2 < (l0.length : Int)
                        · rw [if_pos c17] at H
                          have c17b0 : decide (x37_2 < (l0.length : Int)) = true := decide_eq_true c17
                          clear c17
                          replace H := Option.bind_eq_some_iff.mp H
                          obtain ⟨⟨t183, t184⟩, A180, H⟩ := H
                          replace H : (if t179 = true then (if t184 = true then (if ((rd_T27 l0 x37_2).f0).toList = ((rd_T27 l0 x25_1).f0).toList then ((path_Shape.f k2 t178).bind fun t188 => ((path_Shape.f k2 t183).bind fun t189 => (if t188.toList = t189.toList then (if x3_2 = 0 then (crossroadlaw07_TableChecks.l1 k2 l0 3 t178 t179 l0 (l0.length : Int) x25_1 x25_1 (wrap64 (x37_2 + 1)) ((rd_T27 l0 x25_1).f0) ((rd_T27 l0 x25_1).f1) ((rd_T27 l0 x25_1).f2)) else (crossroadlaw07_TableChecks.l1 k2 l0 x3_2 t178 t179 l0 (l0.length : Int) x25_1 x25_1 (wrap64 (x37_2 + 1)) ((rd_T27 l0 x25_1).f0) ((rd_T27 l0 x25_1).f1) ((rd_T27 l0 x25_1).f2))) else (crossroadlaw07_TableChecks.l1 k2 l0 x3_2 t178 t179 l0 (l0.length : Int) x25_1 x25_1 (wrap64 (x37_2 + 1)) ((rd_T27 l0 x25_1).f0) ((rd_T27 l0 x25_1).f1) ((rd_T27 l0 x25_1).f2))))) else (crossroadlaw07_TableChecks.l1 k2 l0 x3_2 t178 t179 l0 (l0.length : Int) x25_1 x25_1 (wrap64 (x37_2 + 1)) ((rd_T27 l0 x25_1).f0) ((rd_T27 l0 x25_1).f1) ((rd_T27 l0 x25_1).f2))) else (crossroadlaw07_TableChecks.l1 k2 l0 x3_2 t178 t179 l0 (l0.length : Int) x25_1 x25_1 (wrap64 (x37_2 + 1)) ((rd_T27 l0 x25_1).f0) ((rd_T27 l0 x25_1).f1) ((rd_T27 l0 x25_1).f2))) else (crossroadlaw07_TableChecks.l1 k2 l0 x3_2 t178 t179 l0 (l0.length : Int) x25_1 x25_1 (wrap64 (x37_2 + 1)) ((rd_T27 l0 x25_1).f0) ((rd_T27 l0 x25_1).f1) ((rd_T27 l0 x25_1).f2))) = some r := H
                          have A18 := Aside0.mk A180
                          clear A180
                          by_cases c19 : t179 = true
                          · subst c19
                            have H1 : (if t184 = true then (if ((rd_T27 l0 x37_2).f0).toList = ((rd_T27 l0 x25_1).f0).toList then ((path_Shape.f k2 t178).bind fun t188 => ((path_Shape.f k2 t183).bind fun t189 => (if t188.toList = t189.toList then (if x3_2 = 0 then (crossroadlaw07_TableChecks.l1 k2 l0 3 t178 true l0 (l0.length : Int) x25_1 x25_1 (wrap64 (x37_2 + 1)) ((rd_T27 l0 x25_1).f0) ((rd_T27 l0 x25_1).f1) ((rd_T27 l0 x25_1).f2)) else (crossroadlaw07_TableChecks.l1 k2 l0 x3_2 t178 true l0 (l0.length : Int) x25_1 x25_1 (wrap64 (x37_2 + 1)) ((rd_T27 l0 x25_1).f0) ((rd_T27 l0 x25_1).f1) ((rd_T27 l0 x25_1).f2))) else (crossroadlaw07_TableChecks.l1 k2 l0 x3_2 t178 true l0 (l0.length : Int) x25_1 x25_1 (wrap64 (x37_2 + 1)) ((rd_T27 l0 x25_1).f0) ((rd_T27 l0 x25_1).f1) ((rd_T27 l0 x25_1).f2))))) else (crossroadlaw07_TableChecks.l1 k2 l0 x3_2 t178 true l0 (l0.length : Int) x25_1 x25_1 (wrap64 (x37_2 + 1)) ((rd_T27 l0 x25_1).f0) ((rd_T27 l0 x25_1).f1) ((rd_T27 l0 x25_1).f2))) else (crossroadlaw07_TableChecks.l1 k2 l0 x3_2 t178 true l0 (l0.length : Int) x25_1 x25_1 (wrap64 (x37_2 + 1)) ((rd_T27 l0 x25_1).f0) ((rd_T27 l0 x25_1).f1) ((rd_T27 l0 x25_1).f2))) = some r := by rw [if_pos rfl] at H; exact H
                            clear H
                            have H := H1
                            clear H1
                            by_cases c20 : t184 = true
                            · subst c20
                              have H1 : (if ((rd_T27 l0 x37_2).f0).toList = ((rd_T27 l0 x25_1).f0).toList then ((path_Shape.f k2 t178).bind fun t188 => ((path_Shape.f k2 t183).bind fun t189 => (if t188.toList = t189.toList then (if x3_2 = 0 then (crossroadlaw07_TableChecks.l1 k2 l0 3 t178 true l0 (l0.length : Int) x25_1 x25_1 (wrap64 (x37_2 + 1)) ((rd_T27 l0 x25_1).f0) ((rd_T27 l0 x25_1).f1) ((rd_T27 l0 x25_1).f2)) else (crossroadlaw07_TableChecks.l1 k2 l0 x3_2 t178 true l0 (l0.length : Int) x25_1 x25_1 (wrap64 (x37_2 + 1)) ((rd_T27 l0 x25_1).f0) ((rd_T27 l0 x25_1).f1) ((rd_T27 l0 x25_1).f2))) else (crossroadlaw07_TableChecks.l1 k2 l0 x3_2 t178 true l0 (l0.length : Int) x25_1 x25_1 (wrap64 (x37_2 + 1)) ((rd_T27 l0 x25_1).f0) ((rd_T27 l0 x25_1).f1) ((rd_T27 l0 x25_1).f2))))) else (crossroadlaw07_TableChecks.l1 k2 l0 x3_2 t178 true l0 (l0.length : Int) x25_1 x25_1 (wrap64 (x37_2 + 1)) ((rd_T27 l0 x25_1).f0) ((rd_T27 l0 x25_1).f1) ((rd_T27 l0 x25_1).f2))) = some r := by rw [if_pos rfl] at H; exact H
                              clear H
                              have H := H1
                              clear H1
                              by_cases c21 : ((rd_T27 l0 x37_2).f0).toList = ((rd_T27 l0 x25_1).f0).toList
                              · rw [if_pos c21] at H
                                have c21b0 : (((rd_T27 l0 x37_2).f0).toList == ((rd_T27 l0 x25_1).f0).toList) = true := beq_iff_eq.mpr c21
                                have c21b1 : (((rd_T27 l0 x37_2).f0).toList != ((rd_T27 l0 x25_1).f0).toList) = false := bne_eq_false_iff_eq.mpr c21
                                clear c21
                                replace H := Option.bind_eq_some_iff.mp H
                                obtain ⟨t188, A220, H⟩ := H
                                replace H : ((path_Shape.f k2 t183).bind fun t189 => (if t188.toList = t189.toList then (if x3_2 = 0 then (crossroadlaw07_TableChecks.l1 k2 l0 3 t178 true l0 (l0.length : Int) x25_1 x25_1 (wrap64 (x37_2 + 1)) ((rd_T27 l0 x25_1).f0) ((rd_T27 l0 x25_1).f1) ((rd_T27 l0 x25_1).f2)) else (crossroadlaw07_TableChecks.l1 k2 l0 x3_2 t178 true l0 (l0.length : Int) x25_1 x25_1 (wrap64 (x37_2 + 1)) ((rd_T27 l0 x25_1).f0) ((rd_T27 l0 x25_1).f1) ((rd_T27 l0 x25_1).f2))) else (crossroadlaw07_TableChecks.l1 k2 l0 x3_2 t178 true l0 (l0.length : Int) x25_1 x25_1 (wrap64 (x37_2 + 1)) ((rd_T27 l0 x25_1).f0) ((rd_T27 l0 x25_1).f1) ((rd_T27 l0 x25_1).f2)))) = some r := H
                                have A22 := Aside0.mk A220
                                clear A220
                                replace H := Option.bind_eq_some_iff.mp H
                                obtain ⟨t189, A230, H⟩ := H
                                replace H : (if t188.toList = t189.toList then (if x3_2 = 0 then (crossroadlaw07_TableChecks.l1 k2 l0 3 t178 true l0 (l0.length : Int) x25_1 x25_1 (wrap64 (x37_2 + 1)) ((rd_T27 l0 x25_1).f0) ((rd_T27 l0 x25_1).f1) ((rd_T27 l0 x25_1).f2)) else (crossroadlaw07_TableChecks.l1 k2 l0 x3_2 t178 true l0 (l0.length : Int) x25_1 x25_1 (wrap64 (x37_2 + 1)) ((rd_T27 l0 x25_1).f0) ((rd_T27 l0 x25_1).f1) ((rd_T27 l0 x25_1).f2))) else (crossroadlaw07_TableChecks.l1 k2 l0 x3_2 t178 true l0 (l0.length : Int) x25_1 x25_1 (wrap64 (x37_2 + 1)) ((rd_T27 l0 x25_1).f0) ((rd_T27 l0 x25_1).f1) ((rd_T27 l0 x25_1).f2))) = some r := H
                                have A23 := Aside0.mk A230
                                clear A230
                                by_cases c24 : t188.toList = t189.toList
                                · rw [if_pos c24] at H
                                  have c24b0 : (t188.toList == t189.toList) = true := beq_iff_eq.mpr c24
                                  have c24b1 : (t188.toList != t189.toList) = false := bne_eq_false_iff_eq.mpr c24
                                  clear c24
                                  by_cases c25 : x3_2 = 0
                                  · rw [if_pos c25] at H
                                    have c25b0 : (x3_2 == 0) = true := beq_iff_eq.mpr c25
                                    have c25b1 : (x3_2 != 0) = false := bne_eq_false_iff_eq.mpr c25
                                    clear c25
                                    have H' := Aside0.mk H
                                    clear H
                                    have p182 : 0 ≤ (x37_2 : Int) := of_decide_eq_true (by first | (with_reducible assumption) | assumption)
                                    have q182 : x37_2 < (l0.length : Int) := of_decide_eq_true (by first | (with_reducible assumption) | assumption)
                                    obtain ⟨ad182, e182, hx182_0, hx182_1, hx182_2⟩ := at_T27 HR0.out x37_2 p182 q182
                                    obtain rfl : ad176 = ad182 := (by injection e182)
                                    replace hx182_0 := (HB.out.cell (World.block_lt_of_cell? w _ hx182_0)).trans hx182_0
                                    replace hx182_1 := (HB.out.cell (World.block_lt_of_cell? w _ hx182_1)).trans hx182_1
                                    replace hx182_2 := (HB.out.cell (World.block_lt_of_cell? w _ hx182_2)).trans hx182_2
                                    replace p182 := eq_true p182
                                    replace q182 := eq_true q182
                                    go_wp2_with (first | (go_at_call 11; (with_reducible refine (path_Pattern.calls k2 ((rd_T27 l0 x37_2).f1) t183 true _ A18.out).mono ?_); rintro e w26 ⟨v185, rfl, ho0, hb⟩; have n0_ := Aside0.mk (Kd.R_elder' (by (with_reducible repeat (first | apply Kd.R_alloc | apply Kd.R_drewN | apply Kd.R_drew)); exact HO_6.out) (Kd.R_base ho0) hb); have n1_ := Aside0.mk (Kd.R_lower (Kd.R_new' ho0 (Kd.R_lt (by (with_reducible repeat (first | apply Kd.R_alloc | apply Kd.R_drewN | apply Kd.R_drew)); exact HO_6.out))) (below_size (by repeat (first | (with_reducible first | exact HB.out | apply below_alloc | apply pw_below_drewN | apply below_drew1 | refine below_set ?_ GE177.out) | exact HB.out)))); have n2_ := Aside0.mk (blk_below (g := gb177) (o := .cells #[.string ((rd_T27 l0 x25_1).f0), .string ((rd_T27 l0 x25_1).f1), .string ((rd_T27 l0 x25_1).f2)] 27 (0, 0)) (by (with_reducible repeat (first | refine blk_drewN ?_ _ | refine blk_drew ?_ | refine blk_alloc ?_ _)); exact BK177.out) hb); have n3_ := Aside0.mk (below_step (by repeat (first | (with_reducible first | exact HB.out | apply below_alloc | apply pw_below_drewN | apply below_drew1 | refine below_set ?_ GE177.out) | exact HB.out)) hb); clear HO_6; clear BK177; clear HB; have HO_6 := n0_; have HO186 := n1_; have BK177 := n2_; have HB := n3_; clear n0_ n1_ n2_ n3_; (try clear hb); (try clear hb2); (try clear hk); (try clear hi); (try clear ho0); have p187 : 0 ≤ (x37_2 : Int) := of_decide_eq_true (by first | (with_reducible assumption) | assumption); have q187 : x37_2 < (l0.length : Int) := of_decide_eq_true (by first | (with_reducible assumption) | assumption); obtain ⟨ad187, e187, hx187_0, hx187_1, hx187_2⟩ := at_T27 HR0.out x37_2 p187 q187; obtain rfl : ad176 = ad187 := (by injection e187); replace hx187_0 := (HB.out.cell (World.block_lt_of_cell? w _ hx187_0)).trans hx187_0; replace hx187_1 := (HB.out.cell (World.block_lt_of_cell? w _ hx187_1)).trans hx187_1; replace hx187_2 := (HB.out.cell (World.block_lt_of_cell? w _ hx187_2)).trans hx187_2; replace p187 := eq_true p187; replace q187 := eq_true q187; have hcz27_0 : w26.cell? ⟨gb177, 0, none⟩ = some (.string ((rd_T27 l0 x25_1).f0)) := (blk_cell BK177.out 0).trans rfl; have hcz27_1 : w26.cell? ⟨gb177, 1, none⟩ = some (.string ((rd_T27 l0 x25_1).f1)) := (blk_cell BK177.out 1).trans rfl; have hcz27_2 : w26.cell? ⟨gb177, 2, none⟩ = some (.string ((rd_T27 l0 x25_1).f2)) := (blk_cell BK177.out 2).trans rfl; have hfz27_0 := blk_frozen BK177.out 0; have hfz27_1 := blk_frozen BK177.out 1; have hfz27_2 := blk_frozen BK177.out 2; obtain ⟨Ao28, co28, eo28⟩ := Kd.R_slice HO_6.out; subst eo28) | (go_at_call 12; (with_reducible refine (path_Shape.calls k2 _ _ t178 t188 _ ?side1 ?side2 A22.out).mono ?_); (case side1 => repeat (first | exact (Kd.R_reads' HO_6.out).2.2 | (with_reducible refine Kd.C_alloc ?_ _) | (with_reducible refine Kd.C_drewN ?_ _) | (with_reducible refine Kd.C_drew ?_))); (case side2 => exact (Kd.R_reads' HO_6.out).2.1); rintro e w' ⟨rfl, ⟨nd, rfl⟩⟩; (try first | exact ⟨rfl, _, World.drewN_drewN _ _ _⟩ | exact ⟨rfl, _, Eq.trans (World.drewN_drewN _ _ _) (congrArg (World.drewN _) (Nat.add_assoc _ _ _))⟩); obtain ⟨Ao29, co29, eo29⟩ := Kd.R_slice HO186.out; subst eo29) | (go_at_call 12; (with_reducible refine (path_Shape.calls k2 _ _ t183 t189 _ ?side1 ?side2 A23.out).mono ?_); (case side1 => repeat (first | exact (Kd.R_reads' HO186.out).2.2 | (with_reducible refine Kd.C_alloc ?_ _) | (with_reducible refine Kd.C_drewN ?_ _) | (with_reducible refine Kd.C_drew ?_))); (case side2 => exact (Kd.R_reads' HO186.out).2.1); rintro e w' ⟨rfl, ⟨nd, rfl⟩⟩; (try first | exact ⟨rfl, _, World.drewN_drewN _ _ _⟩ | exact ⟨rfl, _, Eq.trans (World.drewN_drewN _ _ _) (congrArg (World.drewN _) (Nat.add_assoc _ _ _))⟩)))
                                    repeat (go_quiet (first | (go_at_call 11; (with_reducible refine (path_Pattern.calls k2 ((rd_T27 l0 x37_2).f1) t183 true _ A18.out).mono ?_); rintro e w26 ⟨v185, rfl, ho0, hb⟩; have n0_ := Aside0.mk (Kd.R_elder' (by (with_reducible repeat (first | apply Kd.R_alloc | apply Kd.R_drewN | apply Kd.R_drew)); exact HO_6.out) (Kd.R_base ho0) hb); have n1_ := Aside0.mk (Kd.R_lower (Kd.R_new' ho0 (Kd.R_lt (by (with_reducible repeat (first | apply Kd.R_alloc | apply Kd.R_drewN | apply Kd.R_drew)); exact HO_6.out))) (below_size (by repeat (first | (with_reducible first | exact HB.out | apply below_alloc | apply pw_below_drewN | apply below_drew1 | refine below_set ?_ GE177.out) | exact HB.out)))); have n2_ := Aside0.mk (blk_below (g := gb177) (o := .cells #[.string ((rd_T27 l0 x25_1).f0), .string ((rd_T27 l0 x25_1).f1), .string ((rd_T27 l0 x25_1).f2)] 27 (0, 0)) (by (with_reducible repeat (first | refine blk_drewN ?_ _ | refine blk_drew ?_ | refine blk_alloc ?_ _)); exact BK177.out) hb); have n3_ := Aside0.mk (below_step (by repeat (first | (with_reducible first | exact HB.out | apply below_alloc | apply pw_below_drewN | apply below_drew1 | refine below_set ?_ GE177.out) | exact HB.out)) hb); clear HO_6; clear BK177; clear HB; have HO_6 := n0_; have HO186 := n1_; have BK177 := n2_; have HB := n3_; clear n0_ n1_ n2_ n3_; (try clear hb); (try clear hb2); (try clear hk); (try clear hi); (try clear ho0); have p187 : 0 ≤ (x37_2 : Int) := of_decide_eq_true (by first | (with_reducible assumption) | assumption); have q187 : x37_2 < (l0.length : Int) := of_decide_eq_true (by first | (with_reducible assumption) | assumption); obtain ⟨ad187, e187, hx187_0, hx187_1, hx187_2⟩ := at_T27 HR0.out x37_2 p187 q187; obtain rfl : ad176 = ad187 := (by injection e187); replace hx187_0 := (HB.out.cell (World.block_lt_of_cell? w _ hx187_0)).trans hx187_0; replace hx187_1 := (HB.out.cell (World.block_lt_of_cell? w _ hx187_1)).trans hx187_1; replace hx187_2 := (HB.out.cell (World.block_lt_of_cell? w _ hx187_2)).trans hx187_2; replace p187 := eq_true p187; replace q187 := eq_true q187; have hcz27_0 : w26.cell? ⟨gb177, 0, none⟩ = some (.string ((rd_T27 l0 x25_1).f0)) := (blk_cell BK177.out 0).trans rfl; have hcz27_1 : w26.cell? ⟨gb177, 1, none⟩ = some (.string ((rd_T27 l0 x25_1).f1)) := (blk_cell BK177.out 1).trans rfl; have hcz27_2 : w26.cell? ⟨gb177, 2, none⟩ = some (.string ((rd_T27 l0 x25_1).f2)) := (blk_cell BK177.out 2).trans rfl; have hfz27_0 := blk_frozen BK177.out 0; have hfz27_1 := blk_frozen BK177.out 1; have hfz27_2 := blk_frozen BK177.out 2; obtain ⟨Ao28, co28, eo28⟩ := Kd.R_slice HO_6.out; subst eo28) | (go_at_call 12; (with_reducible refine (path_Shape.calls k2 _ _ t178 t188 _ ?side1 ?side2 A22.out).mono ?_); (case side1 => repeat (first | exact (Kd.R_reads' HO_6.out).2.2 | (with_reducible refine Kd.C_alloc ?_ _) | (with_reducible refine Kd.C_drewN ?_ _) | (with_reducible refine Kd.C_drew ?_))); (case side2 => exact (Kd.R_reads' HO_6.out).2.1); rintro e w' ⟨rfl, ⟨nd, rfl⟩⟩; (try first | exact ⟨rfl, _, World.drewN_drewN _ _ _⟩ | exact ⟨rfl, _, Eq.trans (World.drewN_drewN _ _ _) (congrArg (World.drewN _) (Nat.add_assoc _ _ _))⟩); obtain ⟨Ao29, co29, eo29⟩ := Kd.R_slice HO186.out; subst eo29) | (go_at_call 12; (with_reducible refine (path_Shape.calls k2 _ _ t183 t189 _ ?side1 ?side2 A23.out).mono ?_); (case side1 => repeat (first | exact (Kd.R_reads' HO186.out).2.2 | (with_reducible refine Kd.C_alloc ?_ _) | (with_reducible refine Kd.C_drewN ?_ _) | (with_reducible refine Kd.C_drew ?_))); (case side2 => exact (Kd.R_reads' HO186.out).2.1); rintro e w' ⟨rfl, ⟨nd, rfl⟩⟩; (try first | exact ⟨rfl, _, World.drewN_drewN _ _ _⟩ | exact ⟨rfl, _, Eq.trans (World.drewN_drewN _ _ _) (congrArg (World.drewN _) (Nat.add_assoc _ _ _))⟩))); try go_wp2_with (first | (go_at_call 11; (with_reducible refine (path_Pattern.calls k2 ((rd_T27 l0 x37_2).f1) t183 true _ A18.out).mono ?_); rintro e w26 ⟨v185, rfl, ho0, hb⟩; have n0_ := Aside0.mk (Kd.R_elder' (by (with_reducible repeat (first | apply Kd.R_alloc | apply Kd.R_drewN | apply Kd.R_drew)); exact HO_6.out) (Kd.R_base ho0) hb); have n1_ := Aside0.mk (Kd.R_lower (Kd.R_new' ho0 (Kd.R_lt (by (with_reducible repeat (first | apply Kd.R_alloc | apply Kd.R_drewN | apply Kd.R_drew)); exact HO_6.out))) (below_size (by repeat (first | (with_reducible first | exact HB.out | apply below_alloc | apply pw_below_drewN | apply below_drew1 | refine below_set ?_ GE177.out) | exact HB.out)))); have n2_ := Aside0.mk (blk_below (g := gb177) (o := .cells #[.string ((rd_T27 l0 x25_1).f0), .string ((rd_T27 l0 x25_1).f1), .string ((rd_T27 l0 x25_1).f2)] 27 (0, 0)) (by (with_reducible repeat (first | refine blk_drewN ?_ _ | refine blk_drew ?_ | refine blk_alloc ?_ _)); exact BK177.out) hb); have n3_ := Aside0.mk (below_step (by repeat (first | (with_reducible first | exact HB.out | apply below_alloc | apply pw_below_drewN | apply below_drew1 | refine below_set ?_ GE177.out) | exact HB.out)) hb); clear HO_6; clear BK177; clear HB; have HO_6 := n0_; have HO186 := n1_; have BK177 := n2_; have HB := n3_; clear n0_ n1_ n2_ n3_; (try clear hb); (try clear hb2); (try clear hk); (try clear hi); (try clear ho0); have p187 : 0 ≤ (x37_2 : Int) := of_decide_eq_true (by first | (with_reducible assumption) | assumption); have q187 : x37_2 < (l0.length : Int) := of_decide_eq_true (by first | (with_reducible assumption) | assumption); obtain ⟨ad187, e187, hx187_0, hx187_1, hx187_2⟩ := at_T27 HR0.out x37_2 p187 q187; obtain rfl : ad176 = ad187 := (by injection e187); replace hx187_0 := (HB.out.cell (World.block_lt_of_cell? w _ hx187_0)).trans hx187_0; replace hx187_1 := (HB.out.cell (World.block_lt_of_cell? w _ hx187_1)).trans hx187_1; replace hx187_2 := (HB.out.cell (World.block_lt_of_cell? w _ hx187_2)).trans hx187_2; replace p187 := eq_true p187; replace q187 := eq_true q187; have hcz27_0 : w26.cell? ⟨gb177, 0, none⟩ = some (.string ((rd_T27 l0 x25_1).f0)) := (blk_cell BK177.out 0).trans rfl; have hcz27_1 : w26.cell? ⟨gb177, 1, none⟩ = some (.string ((rd_T27 l0 x25_1).f1)) := (blk_cell BK177.out 1).trans rfl; have hcz27_2 : w26.cell? ⟨gb177, 2, none⟩ = some (.string ((rd_T27 l0 x25_1).f2)) := (blk_cell BK177.out 2).trans rfl; have hfz27_0 := blk_frozen BK177.out 0; have hfz27_1 := blk_frozen BK177.out 1; have hfz27_2 := blk_frozen BK177.out 2; obtain ⟨Ao28, co28, eo28⟩ := Kd.R_slice HO_6.out; subst eo28) | (go_at_call 12; (with_reducible refine (path_Shape.calls k2 _ _ t178 t188 _ ?side1 ?side2 A22.out).mono ?_); (case side1 => repeat (first | exact (Kd.R_reads' HO_6.out).2.2 | (with_reducible refine Kd.C_alloc ?_ _) | (with_reducible refine Kd.C_drewN ?_ _) | (with_reducible refine Kd.C_drew ?_))); (case side2 => exact (Kd.R_reads' HO_6.out).2.1); rintro e w' ⟨rfl, ⟨nd, rfl⟩⟩; (try first | exact ⟨rfl, _, World.drewN_drewN _ _ _⟩ | exact ⟨rfl, _, Eq.trans (World.drewN_drewN _ _ _) (congrArg (World.drewN _) (Nat.add_assoc _ _ _))⟩); obtain ⟨Ao29, co29, eo29⟩ := Kd.R_slice HO186.out; subst eo29) | (go_at_call 12; (with_reducible refine (path_Shape.calls k2 _ _ t183 t189 _ ?side1 ?side2 A23.out).mono ?_); (case side1 => repeat (first | exact (Kd.R_reads' HO186.out).2.2 | (with_reducible refine Kd.C_alloc ?_ _) | (with_reducible refine Kd.C_drewN ?_ _) | (with_reducible refine Kd.C_drew ?_))); (case side2 => exact (Kd.R_reads' HO186.out).2.1); rintro e w' ⟨rfl, ⟨nd, rfl⟩⟩; (try first | exact ⟨rfl, _, World.drewN_drewN _ _ _⟩ | exact ⟨rfl, _, Eq.trans (World.drewN_drewN _ _ _) (congrArg (World.drewN _) (Nat.add_assoc _ _ _))⟩))))
                                    go_roundg k2
                                    case measure => have := HK1.out; have := HK2.out; omega
                                    case rel => exact ⟨(3), (wrap64 (x37_2 + 1)), (by first | rfl | (simp; done) | (simp [*]; done)), (by first | rfl | (simp; done) | (simp [*]; done)), H', ⟨by have := HK1.out; have := HK2.out; omega⟩, ⟨by (with_reducible repeat (first | apply Kd.R_alloc | apply Kd.R_drewN | apply Kd.R_drew)); exact Kd.R_mono HO_6.out (fun _ hk => trivial)⟩, ⟨by (with_reducible repeat (first | refine blk_drewN ?_ _ | refine blk_drew ?_ | refine blk_alloc ?_ _)); exact BK177.out⟩, ⟨by repeat (first | (with_reducible first | exact HB.out | apply below_alloc | apply pw_below_drewN | apply below_drew1 | refine below_set ?_ GE177.out) | exact HB.out)⟩⟩
                                  · rw [if_neg c25] at H
                                    have c25b0 : (x3_2 == 0) = false := beq_eq_false_iff_ne.mpr c25
                                    have c25b1 : (x3_2 != 0) = true := bne_iff_ne.mpr c25
                                    have H' := Aside0.mk H
                                    clear H
                                    have p182 : 0 ≤ (x37_2 : Int) := of_decide_eq_true (by first | (with_reducible assumption) | assumption)
                                    have q182 : x37_2 < (l0.length : Int) := of_decide_eq_true (by first | (with_reducible assumption) | assumption)
                                    obtain ⟨ad182, e182, hx182_0, hx182_1, hx182_2⟩ := at_T27 HR0.out x37_2 p182 q182
                                    obtain rfl : ad176 = ad182 := (by injection e182)
                                    replace hx182_0 := (HB.out.cell (World.block_lt_of_cell? w _ hx182_0)).trans hx182_0
                                    replace hx182_1 := (HB.out.cell (World.block_lt_of_cell? w _ hx182_1)).trans hx182_1
                                    replace hx182_2 := (HB.out.cell (World.block_lt_of_cell? w _ hx182_2)).trans hx182_2
                                    replace p182 := eq_true p182
                                    replace q182 := eq_true q182
                                    go_wp2_with (first | (go_at_call 11; (with_reducible refine (path_Pattern.calls k2 ((rd_T27 l0 x37_2).f1) t183 true _ A18.out).mono ?_); rintro e w30 ⟨v185, rfl, ho0, hb⟩; have n0_ := Aside0.mk (Kd.R_elder' (by (with_reducible repeat (first | apply Kd.R_alloc | apply Kd.R_drewN | apply Kd.R_drew)); exact HO_6.out) (Kd.R_base ho0) hb); have n1_ := Aside0.mk (Kd.R_lower (Kd.R_new' ho0 (Kd.R_lt (by (with_reducible repeat (first | apply Kd.R_alloc | apply Kd.R_drewN | apply Kd.R_drew)); exact HO_6.out))) (below_size (by repeat (first | (with_reducible first | exact HB.out | apply below_alloc | apply pw_below_drewN | apply below_drew1 | refine below_set ?_ GE177.out) | exact HB.out)))); have n2_ := Aside0.mk (blk_below (g := gb177) (o := .cells #[.string ((rd_T27 l0 x25_1).f0), .string ((rd_T27 l0 x25_1).f1), .string ((rd_T27 l0 x25_1).f2)] 27 (0, 0)) (by (with_reducible repeat (first | refine blk_drewN ?_ _ | refine blk_drew ?_ | refine blk_alloc ?_ _)); exact BK177.out) hb); have n3_ := Aside0.mk (below_step (by repeat (first | (with_reducible first | exact HB.out | apply below_alloc | apply pw_below_drewN | apply below_drew1 | refine below_set ?_ GE177.out) | exact HB.out)) hb); clear HO_6; clear BK177; clear HB; have HO_6 := n0_; have HO186 := n1_; have BK177 := n2_; have HB := n3_; clear n0_ n1_ n2_ n3_; (try clear hb); (try clear hb2); (try clear hk); (try clear hi); (try clear ho0); have p187 : 0 ≤ (x37_2 : Int) := of_decide_eq_true (by first | (with_reducible assumption) | assumption); have q187 : x37_2 < (l0.length : Int) := of_decide_eq_true (by first | (with_reducible assumption) | assumption); obtain ⟨ad187, e187, hx187_0, hx187_1, hx187_2⟩ := at_T27 HR0.out x37_2 p187 q187; obtain rfl : ad176 = ad187 := (by injection e187); replace hx187_0 := (HB.out.cell (World.block_lt_of_cell? w _ hx187_0)).trans hx187_0; replace hx187_1 := (HB.out.cell (World.block_lt_of_cell? w _ hx187_1)).trans hx187_1; replace hx187_2 := (HB.out.cell (World.block_lt_of_cell? w _ hx187_2)).trans hx187_2; replace p187 := eq_true p187; replace q187 := eq_true q187; have hcz31_0 : w30.cell? ⟨gb177, 0, none⟩ = some (.string ((rd_T27 l0 x25_1).f0)) := (blk_cell BK177.out 0).trans rfl; have hcz31_1 : w30.cell? ⟨gb177, 1, none⟩ = some (.string ((rd_T27 l0 x25_1).f1)) := (blk_cell BK177.out 1).trans rfl; have hcz31_2 : w30.cell? ⟨gb177, 2, none⟩ = some (.string ((rd_T27 l0 x25_1).f2)) := (blk_cell BK177.out 2).trans rfl; have hfz31_0 := blk_frozen BK177.out 0; have hfz31_1 := blk_frozen BK177.out 1; have hfz31_2 := blk_frozen BK177.out 2; obtain ⟨Ao32, co32, eo32⟩ := Kd.R_slice HO_6.out; subst eo32) | (go_at_call 12; (with_reducible refine (path_Shape.calls k2 _ _ t178 t188 _ ?side1 ?side2 A22.out).mono ?_); (case side1 => repeat (first | exact (Kd.R_reads' HO_6.out).2.2 | (with_reducible refine Kd.C_alloc ?_ _) | (with_reducible refine Kd.C_drewN ?_ _) | (with_reducible refine Kd.C_drew ?_))); (case side2 => exact (Kd.R_reads' HO_6.out).2.1); rintro e w' ⟨rfl, ⟨nd, rfl⟩⟩; (try first | exact ⟨rfl, _, World.drewN_drewN _ _ _⟩ | exact ⟨rfl, _, Eq.trans (World.drewN_drewN _ _ _) (congrArg (World.drewN _) (Nat.add_assoc _ _ _))⟩); obtain ⟨Ao33, co33, eo33⟩ := Kd.R_slice HO186.out; subst eo33) | (go_at_call 12; (with_reducible refine (path_Shape.calls k2 _ _ t183 t189 _ ?side1 ?side2 A23.out).mono ?_); (case side1 => repeat (first | exact (Kd.R_reads' HO186.out).2.2 | (with_reducible refine Kd.C_alloc ?_ _) | (with_reducible refine Kd.C_drewN ?_ _) | (with_reducible refine Kd.C_drew ?_))); (case side2 => exact (Kd.R_reads' HO186.out).2.1); rintro e w' ⟨rfl, ⟨nd, rfl⟩⟩; (try first | exact ⟨rfl, _, World.drewN_drewN _ _ _⟩ | exact ⟨rfl, _, Eq.trans (World.drewN_drewN _ _ _) (congrArg (World.drewN _) (Nat.add_assoc _ _ _))⟩)))
                                    repeat (go_quiet (first | (go_at_call 11; (with_reducible refine (path_Pattern.calls k2 ((rd_T27 l0 x37_2).f1) t183 true _ A18.out).mono ?_); rintro e w30 ⟨v185, rfl, ho0, hb⟩; have n0_ := Aside0.mk (Kd.R_elder' (by (with_reducible repeat (first | apply Kd.R_alloc | apply Kd.R_drewN | apply Kd.R_drew)); exact HO_6.out) (Kd.R_base ho0) hb); have n1_ := Aside0.mk (Kd.R_lower (Kd.R_new' ho0 (Kd.R_lt (by (with_reducible repeat (first | apply Kd.R_alloc | apply Kd.R_drewN | apply Kd.R_drew)); exact HO_6.out))) (below_size (by repeat (first | (with_reducible first | exact HB.out | apply below_alloc | apply pw_below_drewN | apply below_drew1 | refine below_set ?_ GE177.out) | exact HB.out)))); have n2_ := Aside0.mk (blk_below (g := gb177) (o := .cells #[.string ((rd_T27 l0 x25_1).f0), .string ((rd_T27 l0 x25_1).f1), .string ((rd_T27 l0 x25_1).f2)] 27 (0, 0)) (by (with_reducible repeat (first | refine blk_drewN ?_ _ | refine blk_drew ?_ | refine blk_alloc ?_ _)); exact BK177.out) hb); have n3_ := Aside0.mk (below_step (by repeat (first | (with_reducible first | exact HB.out | apply below_alloc | apply pw_below_drewN | apply below_drew1 | refine below_set ?_ GE177.out) | exact HB.out)) hb); clear HO_6; clear BK177; clear HB; have HO_6 := n0_; have HO186 := n1_; have BK177 := n2_; have HB := n3_; clear n0_ n1_ n2_ n3_; (try clear hb); (try clear hb2); (try clear hk); (try clear hi); (try clear ho0); have p187 : 0 ≤ (x37_2 : Int) := of_decide_eq_true (by first | (with_reducible assumption) | assumption); have q187 : x37_2 < (l0.length : Int) := of_decide_eq_true (by first | (with_reducible assumption) | assumption); obtain ⟨ad187, e187, hx187_0, hx187_1, hx187_2⟩ := at_T27 HR0.out x37_2 p187 q187; obtain rfl : ad176 = ad187 := (by injection e187); replace hx187_0 := (HB.out.cell (World.block_lt_of_cell? w _ hx187_0)).trans hx187_0; replace hx187_1 := (HB.out.cell (World.block_lt_of_cell? w _ hx187_1)).trans hx187_1; replace hx187_2 := (HB.out.cell (World.block_lt_of_cell? w _ hx187_2)).trans hx187_2; replace p187 := eq_true p187; replace q187 := eq_true q187; have hcz31_0 : w30.cell? ⟨gb177, 0, none⟩ = some (.string ((rd_T27 l0 x25_1).f0)) := (blk_cell BK177.out 0).trans rfl; have hcz31_1 : w30.cell? ⟨gb177, 1, none⟩ = some (.string ((rd_T27 l0 x25_1).f1)) := (blk_cell BK177.out 1).trans rfl; have hcz31_2 : w30.cell? ⟨gb177, 2, none⟩ = some (.string ((rd_T27 l0 x25_1).f2)) := (blk_cell BK177.out 2).trans rfl; have hfz31_0 := blk_frozen BK177.out 0; have hfz31_1 := blk_frozen BK177.out 1; have hfz31_2 := blk_frozen BK177.out 2; obtain ⟨Ao32, co32, eo32⟩ := Kd.R_slice HO_6.out; subst eo32) | (go_at_call 12; (with_reducible refine (path_Shape.calls k2 _ _ t178 t188 _ ?side1 ?side2 A22.out).mono ?_); (case side1 => repeat (first | exact (Kd.R_reads' HO_6.out).2.2 | (with_reducible refine Kd.C_alloc ?_ _) | (with_reducible refine Kd.C_drewN ?_ _) | (with_reducible refine Kd.C_drew ?_))); (case side2 => exact (Kd.R_reads' HO_6.out).2.1); rintro e w' ⟨rfl, ⟨nd, rfl⟩⟩; (try first | exact ⟨rfl, _, World.drewN_drewN _ _ _⟩ | exact ⟨rfl, _, Eq.trans (World.drewN_drewN _ _ _) (congrArg (World.drewN _) (Nat.add_assoc _ _ _))⟩); obtain ⟨Ao33, co33, eo33⟩ := Kd.R_slice HO186.out; subst eo33) | (go_at_call 12; (with_reducible refine (path_Shape.calls k2 _ _ t183 t189 _ ?side1 ?side2 A23.out).mono ?_); (case side1 => repeat (first | exact (Kd.R_reads' HO186.out).2.2 | (with_reducible refine Kd.C_alloc ?_ _) | (with_reducible refine Kd.C_drewN ?_ _) | (with_reducible refine Kd.C_drew ?_))); (case side2 => exact (Kd.R_reads' HO186.out).2.1); rintro e w' ⟨rfl, ⟨nd, rfl⟩⟩; (try first | exact ⟨rfl, _, World.drewN_drewN _ _ _⟩ | exact ⟨rfl, _, Eq.trans (World.drewN_drewN _ _ _) (congrArg (World.drewN _) (Nat.add_assoc _ _ _))⟩))); try go_wp2_with (first | (go_at_call 11; (with_reducible refine (path_Pattern.calls k2 ((rd_T27 l0 x37_2).f1) t183 true _ A18.out).mono ?_); rintro e w30 ⟨v185, rfl, ho0, hb⟩; have n0_ := Aside0.mk (Kd.R_elder' (by (with_reducible repeat (first | apply Kd.R_alloc | apply Kd.R_drewN | apply Kd.R_drew)); exact HO_6.out) (Kd.R_base ho0) hb); have n1_ := Aside0.mk (Kd.R_lower (Kd.R_new' ho0 (Kd.R_lt (by (with_reducible repeat (first | apply Kd.R_alloc | apply Kd.R_drewN | apply Kd.R_drew)); exact HO_6.out))) (below_size (by repeat (first | (with_reducible first | exact HB.out | apply below_alloc | apply pw_below_drewN | apply below_drew1 | refine below_set ?_ GE177.out) | exact HB.out)))); have n2_ := Aside0.mk (blk_below (g := gb177) (o := .cells #[.string ((rd_T27 l0 x25_1).f0), .string ((rd_T27 l0 x25_1).f1), .string ((rd_T27 l0 x25_1).f2)] 27 (0, 0)) (by (with_reducible repeat (first | refine blk_drewN ?_ _ | refine blk_drew ?_ | refine blk_alloc ?_ _)); exact BK177.out) hb); have n3_ := Aside0.mk (below_step (by repeat (first | (with_reducible first | exact HB.out | apply below_alloc | apply pw_below_drewN | apply below_drew1 | refine below_set ?_ GE177.out) | exact HB.out)) hb); clear HO_6; clear BK177; clear HB; have HO_6 := n0_; have HO186 := n1_; have BK177 := n2_; have HB := n3_; clear n0_ n1_ n2_ n3_; (try clear hb); (try clear hb2); (try clear hk); (try clear hi); (try clear ho0); have p187 : 0 ≤ (x37_2 : Int) := of_decide_eq_true (by first | (with_reducible assumption) | assumption); have q187 : x37_2 < (l0.length : Int) := of_decide_eq_true (by first | (with_reducible assumption) | assumption); obtain ⟨ad187, e187, hx187_0, hx187_1, hx187_2⟩ := at_T27 HR0.out x37_2 p187 q187; obtain rfl : ad176 = ad187 := (by injection e187); replace hx187_0 := (HB.out.cell (World.block_lt_of_cell? w _ hx187_0)).trans hx187_0; replace hx187_1 := (HB.out.cell (World.block_lt_of_cell? w _ hx187_1)).trans hx187_1; replace hx187_2 := (HB.out.cell (World.block_lt_of_cell? w _ hx187_2)).trans hx187_2; replace p187 := eq_true p187; replace q187 := eq_true q187; have hcz31_0 : w30.cell? ⟨gb177, 0, none⟩ = some (.string ((rd_T27 l0 x25_1).f0)) := (blk_cell BK177.out 0).trans rfl; have hcz31_1 : w30.cell? ⟨gb177, 1, none⟩ = some (.string ((rd_T27 l0 x25_1).f1)) := (blk_cell BK177.out 1).trans rfl; have hcz31_2 : w30.cell? ⟨gb177, 2, none⟩ = some (.string ((rd_T27 l0 x25_1).f2)) := (blk_cell BK177.out 2).trans rfl; have hfz31_0 := blk_frozen BK177.out 0; have hfz31_1 := blk_frozen BK177.out 1; have hfz31_2 := blk_frozen BK177.out 2; obtain ⟨Ao32, co32, eo32⟩ := Kd.R_slice HO_6.out; subst eo32) | (go_at_call 12; (with_reducible refine (path_Shape.calls k2 _ _ t178 t188 _ ?side1 ?side2 A22.out).mono ?_); (case side1 => repeat (first | exact (Kd.R_reads' HO_6.out).2.2 | (with_reducible refine Kd.C_alloc ?_ _) | (with_reducible refine Kd.C_drewN ?_ _) | (with_reducible refine Kd.C_drew ?_))); (case side2 => exact (Kd.R_reads' HO_6.out).2.1); rintro e w' ⟨rfl, ⟨nd, rfl⟩⟩; (try first | exact ⟨rfl, _, World.drewN_drewN _ _ _⟩ | exact ⟨rfl, _, Eq.trans (World.drewN_drewN _ _ _) (congrArg (World.drewN _) (Nat.add_assoc _ _ _))⟩); obtain ⟨Ao33, co33, eo33⟩ := Kd.R_slice HO186.out; subst eo33) | (go_at_call 12; (with_reducible refine (path_Shape.calls k2 _ _ t183 t189 _ ?side1 ?side2 A23.out).mono ?_); (case side1 => repeat (first | exact (Kd.R_reads' HO186.out).2.2 | (with_reducible refine Kd.C_alloc ?_ _) | (with_reducible refine Kd.C_drewN ?_ _) | (with_reducible refine Kd.C_drew ?_))); (case side2 => exact (Kd.R_reads' HO186.out).2.1); rintro e w' ⟨rfl, ⟨nd, rfl⟩⟩; (try first | exact ⟨rfl, _, World.drewN_drewN _ _ _⟩ | exact ⟨rfl, _, Eq.trans (World.drewN_drewN _ _ _) (congrArg (World.drewN _) (Nat.add_assoc _ _ _))⟩))))
                                    go_roundg k2
                                    case measure => have := HK1.out; have := HK2.out; omega
                                    case rel => exact ⟨(x3_2), (wrap64 (x37_2 + 1)), (by first | rfl | (simp; done) | (simp [*]; done)), (by first | rfl | (simp; done) | (simp [*]; done)), H', ⟨by have := HK1.out; have := HK2.out; omega⟩, ⟨by (with_reducible repeat (first | apply Kd.R_alloc | apply Kd.R_drewN | apply Kd.R_drew)); exact Kd.R_mono HO_6.out (fun _ hk => trivial)⟩, ⟨by (with_reducible repeat (first | refine blk_drewN ?_ _ | refine blk_drew ?_ | refine blk_alloc ?_ _)); exact BK177.out⟩, ⟨by repeat (first | (with_reducible first | exact HB.out | apply below_alloc | apply pw_below_drewN | apply below_drew1 | refine below_set ?_ GE177.out) | exact HB.out)⟩⟩
                                · rw [if_neg c24] at H
                                  have c24b0 : (t188.toList == t189.toList) = false := beq_eq_false_iff_ne.mpr c24
                                  have c24b1 : (t188.toList != t189.toList) = true := bne_iff_ne.mpr c24
                                  have H' := Aside0.mk H
                                  clear H
                                  have p182 : 0 ≤ (x37_2 : Int) := of_decide_eq_true (by first | (with_reducible assumption) | assumption)
                                  have q182 : x37_2 < (l0.length : Int) := of_decide_eq_true (by first | (with_reducible assumption) | assumption)
                                  obtain ⟨ad182, e182, hx182_0, hx182_1, hx182_2⟩ := at_T27 HR0.out x37_2 p182 q182
                                  obtain rfl : ad176 = ad182 := (by injection e182)
                                  replace hx182_0 := (HB.out.cell (World.block_lt_of_cell? w _ hx182_0)).trans hx182_0
                                  replace hx182_1 := (HB.out.cell (World.block_lt_of_cell? w _ hx182_1)).trans hx182_1
                                  replace hx182_2 := (HB.out.cell (World.block_lt_of_cell? w _ hx182_2)).trans hx182_2
                                  replace p182 := eq_true p182
                                  replace q182 := eq_true q182
                                  go_wp2_with (first | (go_at_call 11; (with_reducible refine (path_Pattern.calls k2 ((rd_T27 l0 x37_2).f1) t183 true _ A18.out).mono ?_); rintro e w34 ⟨v185, rfl, ho0, hb⟩; have n0_ := Aside0.mk (Kd.R_elder' (by (with_reducible repeat (first | apply Kd.R_alloc | apply Kd.R_drewN | apply Kd.R_drew)); exact HO_6.out) (Kd.R_base ho0) hb); have n1_ := Aside0.mk (Kd.R_lower (Kd.R_new' ho0 (Kd.R_lt (by (with_reducible repeat (first | apply Kd.R_alloc | apply Kd.R_drewN | apply Kd.R_drew)); exact HO_6.out))) (below_size (by repeat (first | (with_reducible first | exact HB.out | apply below_alloc | apply pw_below_drewN | apply below_drew1 | refine below_set ?_ GE177.out) | exact HB.out)))); have n2_ := Aside0.mk (blk_below (g := gb177) (o := .cells #[.string ((rd_T27 l0 x25_1).f0), .string ((rd_T27 l0 x25_1).f1), .string ((rd_T27 l0 x25_1).f2)] 27 (0, 0)) (by (with_reducible repeat (first | refine blk_drewN ?_ _ | refine blk_drew ?_ | refine blk_alloc ?_ _)); exact BK177.out) hb); have n3_ := Aside0.mk (below_step (by repeat (first | (with_reducible first | exact HB.out | apply below_alloc | apply pw_below_drewN | apply below_drew1 | refine below_set ?_ GE177.out) | exact HB.out)) hb); clear HO_6; clear BK177; clear HB; have HO_6 := n0_; have HO186 := n1_; have BK177 := n2_; have HB := n3_; clear n0_ n1_ n2_ n3_; (try clear hb); (try clear hb2); (try clear hk); (try clear hi); (try clear ho0); have p187 : 0 ≤ (x37_2 : Int) := of_decide_eq_true (by first | (with_reducible assumption) | assumption); have q187 : x37_2 < (l0.length : Int) := of_decide_eq_true (by first | (with_reducible assumption) | assumption); obtain ⟨ad187, e187, hx187_0, hx187_1, hx187_2⟩ := at_T27 HR0.out x37_2 p187 q187; obtain rfl : ad176 = ad187 := (by injection e187); replace hx187_0 := (HB.out.cell (World.block_lt_of_cell? w _ hx187_0)).trans hx187_0; replace hx187_1 := (HB.out.cell (World.block_lt_of_cell? w _ hx187_1)).trans hx187_1; replace hx187_2 := (HB.out.cell (World.block_lt_of_cell? w _ hx187_2)).trans hx187_2; replace p187 := eq_true p187; replace q187 := eq_true q187; have hcz35_0 : w34.cell? ⟨gb177, 0, none⟩ = some (.string ((rd_T27 l0 x25_1).f0)) := (blk_cell BK177.out 0).trans rfl; have hcz35_1 : w34.cell? ⟨gb177, 1, none⟩ = some (.string ((rd_T27 l0 x25_1).f1)) := (blk_cell BK177.out 1).trans rfl; have hcz35_2 : w34.cell? ⟨gb177, 2, none⟩ = some (.string ((rd_T27 l0 x25_1).f2)) := (blk_cell BK177.out 2).trans rfl; have hfz35_0 := blk_frozen BK177.out 0; have hfz35_1 := blk_frozen BK177.out 1; have hfz35_2 := blk_frozen BK177.out 2; obtain ⟨Ao36, co36, eo36⟩ := Kd.R_slice HO_6.out; subst eo36) | (go_at_call 12; (with_reducible refine (path_Shape.calls k2 _ _ t178 t188 _ ?side1 ?side2 A22.out).mono ?_); (case side1 => repeat (first | exact (Kd.R_reads' HO_6.out).2.2 | (with_reducible refine Kd.C_alloc ?_ _) | (with_reducible refine Kd.C_drewN ?_ _) | (with_reducible refine Kd.C_drew ?_))); (case side2 => exact (Kd.R_reads' HO_6.out).2.1); rintro e w' ⟨rfl, ⟨nd, rfl⟩⟩; (try first | exact ⟨rfl, _, World.drewN_drewN _ _ _⟩ | exact ⟨rfl, _, Eq.trans (World.drewN_drewN _ _ _) (congrArg (World.drewN _) (Nat.add_assoc _ _ _))⟩); obtain ⟨Ao37, co37, eo37⟩ := Kd.R_slice HO186.out; subst eo37) | (go_at_call 12; (with_reducible refine (path_Shape.calls k2 _ _ t183 t189 _ ?side1 ?side2 A23.out).mono ?_); (case side1 => repeat (first | exact (Kd.R_reads' HO186.out).2.2 | (with_reducible refine Kd.C_alloc ?_ _) | (with_reducible refine Kd.C_drewN ?_ _) | (with_reducible refine Kd.C_drew ?_))); (case side2 => exact (Kd.R_reads' HO186.out).2.1); rintro e w' ⟨rfl, ⟨nd, rfl⟩⟩; (try first | exact ⟨rfl, _, World.drewN_drewN _ _ _⟩ | exact ⟨rfl, _, Eq.trans (World.drewN_drewN _ _ _) (congrArg (World.drewN _) (Nat.add_assoc _ _ _))⟩)))
                                  repeat (go_quiet (first | (go_at_call 11; (with_reducible refine (path_Pattern.calls k2 ((rd_T27 l0 x37_2).f1) t183 true _ A18.out).mono ?_); rintro e w34 ⟨v185, rfl, ho0, hb⟩; have n0_ := Aside0.mk (Kd.R_elder' (by (with_reducible repeat (first | apply Kd.R_alloc | apply Kd.R_drewN | apply Kd.R_drew)); exact HO_6.out) (Kd.R_base ho0) hb); have n1_ := Aside0.mk (Kd.R_lower (Kd.R_new' ho0 (Kd.R_lt (by (with_reducible repeat (first | apply Kd.R_alloc | apply Kd.R_drewN | apply Kd.R_drew)); exact HO_6.out))) (below_size (by repeat (first | (with_reducible first | exact HB.out | apply below_alloc | apply pw_below_drewN | apply below_drew1 | refine below_set ?_ GE177.out) | exact HB.out)))); have n2_ := Aside0.mk (blk_below (g := gb177) (o := .cells #[.string ((rd_T27 l0 x25_1).f0), .string ((rd_T27 l0 x25_1).f1), .string ((rd_T27 l0 x25_1).f2)] 27 (0, 0)) (by (with_reducible repeat (first | refine blk_drewN ?_ _ | refine blk_drew ?_ | refine blk_alloc ?_ _)); exact BK177.out) hb); have n3_ := Aside0.mk (below_step (by repeat (first | (with_reducible first | exact HB.out | apply below_alloc | apply pw_below_drewN | apply below_drew1 | refine below_set ?_ GE177.out) | exact HB.out)) hb); clear HO_6; clear BK177; clear HB; have HO_6 := n0_; have HO186 := n1_; have BK177 := n2_; have HB := n3_; clear n0_ n1_ n2_ n3_; (try clear hb); (try clear hb2); (try clear hk); (try clear hi); (try clear ho0); have p187 : 0 ≤ (x37_2 : Int) := of_decide_eq_true (by first | (with_reducible assumption) | assumption); have q187 : x37_2 < (l0.length : Int) := of_decide_eq_true (by first | (with_reducible assumption) | assumption); obtain ⟨ad187, e187, hx187_0, hx187_1, hx187_2⟩ := at_T27 HR0.out x37_2 p187 q187; obtain rfl : ad176 = ad187 := (by injection e187); replace hx187_0 := (HB.out.cell (World.block_lt_of_cell? w _ hx187_0)).trans hx187_0; replace hx187_1 := (HB.out.cell (World.block_lt_of_cell? w _ hx187_1)).trans hx187_1; replace hx187_2 := (HB.out.cell (World.block_lt_of_cell? w _ hx187_2)).trans hx187_2; replace p187 := eq_true p187; replace q187 := eq_true q187; have hcz35_0 : w34.cell? ⟨gb177, 0, none⟩ = some (.string ((rd_T27 l0 x25_1).f0)) := (blk_cell BK177.out 0).trans rfl; have hcz35_1 : w34.cell? ⟨gb177, 1, none⟩ = some (.string ((rd_T27 l0 x25_1).f1)) := (blk_cell BK177.out 1).trans rfl; have hcz35_2 : w34.cell? ⟨gb177, 2, none⟩ = some (.string ((rd_T27 l0 x25_1).f2)) := (blk_cell BK177.out 2).trans rfl; have hfz35_0 := blk_frozen BK177.out 0; have hfz35_1 := blk_frozen BK177.out 1; have hfz35_2 := blk_frozen BK177.out 2; obtain ⟨Ao36, co36, eo36⟩ := Kd.R_slice HO_6.out; subst eo36) | (go_at_call 12; (with_reducible refine (path_Shape.calls k2 _ _ t178 t188 _ ?side1 ?side2 A22.out).mono ?_); (case side1 => repeat (first | exact (Kd.R_reads' HO_6.out).2.2 | (with_reducible refine Kd.C_alloc ?_ _) | (with_reducible refine Kd.C_drewN ?_ _) | (with_reducible refine Kd.C_drew ?_))); (case side2 => exact (Kd.R_reads' HO_6.out).2.1); rintro e w' ⟨rfl, ⟨nd, rfl⟩⟩; (try first | exact ⟨rfl, _, World.drewN_drewN _ _ _⟩ | exact ⟨rfl, _, Eq.trans (World.drewN_drewN _ _ _) (congrArg (World.drewN _) (Nat.add_assoc _ _ _))⟩); obtain ⟨Ao37, co37, eo37⟩ := Kd.R_slice HO186.out; subst eo37) | (go_at_call 12; (with_reducible refine (path_Shape.calls k2 _ _ t183 t189 _ ?side1 ?side2 A23.out).mono ?_); (case side1 => repeat (first | exact (Kd.R_reads' HO186.out).2.2 | (with_reducible refine Kd.C_alloc ?_ _) | (with_reducible refine Kd.C_drewN ?_ _) | (with_reducible refine Kd.C_drew ?_))); (case side2 => exact (Kd.R_reads' HO186.out).2.1); rintro e w' ⟨rfl, ⟨nd, rfl⟩⟩; (try first | exact ⟨rfl, _, World.drewN_drewN _ _ _⟩ | exact ⟨rfl, _, Eq.trans (World.drewN_drewN _ _ _) (congrArg (World.drewN _) (Nat.add_assoc _ _ _))⟩))); try go_wp2_with (first | (go_at_call 11; (with_reducible refine (path_Pattern.calls k2 ((rd_T27 l0 x37_2).f1) t183 true _ A18.out).mono ?_); rintro e w34 ⟨v185, rfl, ho0, hb⟩; have n0_ := Aside0.mk (Kd.R_elder' (by (with_reducible repeat (first | apply Kd.R_alloc | apply Kd.R_drewN | apply Kd.R_drew)); exact HO_6.out) (Kd.R_base ho0) hb); have n1_ := Aside0.mk (Kd.R_lower (Kd.R_new' ho0 (Kd.R_lt (by (with_reducible repeat (first | apply Kd.R_alloc | apply Kd.R_drewN | apply Kd.R_drew)); exact HO_6.out))) (below_size (by repeat (first | (with_reducible first | exact HB.out | apply below_alloc | apply pw_below_drewN | apply below_drew1 | refine below_set ?_ GE177.out) | exact HB.out)))); have n2_ := Aside0.mk (blk_below (g := gb177) (o := .cells #[.string ((rd_T27 l0 x25_1).f0), .string ((rd_T27 l0 x25_1).f1), .string ((rd_T27 l0 x25_1).f2)] 27 (0, 0)) (by (with_reducible repeat (first | refine blk_drewN ?_ _ | refine blk_drew ?_ | refine blk_alloc ?_ _)); exact BK177.out) hb); have n3_ := Aside0.mk (below_step (by repeat (first | (with_reducible first | exact HB.out | apply below_alloc | apply pw_below_drewN | apply below_drew1 | refine below_set ?_ GE177.out) | exact HB.out)) hb); clear HO_6; clear BK177; clear HB; have HO_6 := n0_; have HO186 := n1_; have BK177 := n2_; have HB := n3_; clear n0_ n1_ n2_ n3_; (try clear hb); (try clear hb2); (try clear hk); (try clear hi); (try clear ho0); have p187 : 0 ≤ (x37_2 : Int) := of_decide_eq_true (by first | (with_reducible assumption) | assumption); have q187 : x37_2 < (l0.length : Int) := of_decide_eq_true (by first | (with_reducible assumption) | assumption); obtain ⟨ad187, e187, hx187_0, hx187_1, hx187_2⟩ := at_T27 HR0.out x37_2 p187 q187; obtain rfl : ad176 = ad187 := (by injection e187); replace hx187_0 := (HB.out.cell (World.block_lt_of_cell? w _ hx187_0)).trans hx187_0; replace hx187_1 := (HB.out.cell (World.block_lt_of_cell? w _ hx187_1)).trans hx187_1; replace hx187_2 := (HB.out.cell (World.block_lt_of_cell? w _ hx187_2)).trans hx187_2; replace p187 := eq_true p187; replace q187 := eq_true q187; have hcz35_0 : w34.cell? ⟨gb177, 0, none⟩ = some (.string ((rd_T27 l0 x25_1).f0)) := (blk_cell BK177.out 0).trans rfl; have hcz35_1 : w34.cell? ⟨gb177, 1, none⟩ = some (.string ((rd_T27 l0 x25_1).f1)) := (blk_cell BK177.out 1).trans rfl; have hcz35_2 : w34.cell? ⟨gb177, 2, none⟩ = some (.string ((rd_T27 l0 x25_1).f2)) := (blk_cell BK177.out 2).trans rfl; have hfz35_0 := blk_frozen BK177.out 0; have hfz35_1 := blk_frozen BK177.out 1; have hfz35_2 := blk_frozen BK177.out 2; obtain ⟨Ao36, co36, eo36⟩ := Kd.R_slice HO_6.out; subst eo36) | (go_at_call 12; (with_reducible refine (path_Shape.calls k2 _ _ t178 t188 _ ?side1 ?side2 A22.out).mono ?_); (case side1 => repeat (first | exact (Kd.R_reads' HO_6.out).2.2 | (with_reducible refine Kd.C_alloc ?_ _) | (with_reducible refine Kd.C_drewN ?_ _) | (with_reducible refine Kd.C_drew ?_))); (case side2 => exact (Kd.R_reads' HO_6.out).2.1); rintro e w' ⟨rfl, ⟨nd, rfl⟩⟩; (try first | exact ⟨rfl, _, World.drewN_drewN _ _ _⟩ | exact ⟨rfl, _, Eq.trans (World.drewN_drewN _ _ _) (congrArg (World.drewN _) (Nat.add_assoc _ _ _))⟩); obtain ⟨Ao37, co37, eo37⟩ := Kd.R_slice HO186.out; subst eo37) | (go_at_call 12; (with_reducible refine (path_Shape.calls k2 _ _ t183 t189 _ ?side1 ?side2 A23.out).mono ?_); (case side1 => repeat (first | exact (Kd.R_reads' HO186.out).2.2 | (with_reducible refine Kd.C_alloc ?_ _) | (with_reducible refine Kd.C_drewN ?_ _) | (with_reducible refine Kd.C_drew ?_))); (case side2 => exact (Kd.R_reads' HO186.out).2.1); rintro e w' ⟨rfl, ⟨nd, rfl⟩⟩; (try first | exact ⟨rfl, _, World.drewN_drewN _ _ _⟩ | exact ⟨rfl, _, Eq.trans (World.drewN_drewN _ _ _) (congrArg (World.drewN _) (Nat.add_assoc _ _ _))⟩))))
                                  go_roundg k2
                                  case measure => have := HK1.out; have := HK2.out; omega
                                  case rel => exact ⟨(x3_2), (wrap64 (x37_2 + 1)), (by first | rfl | (simp; done) | (simp [*]; done)), (by first | rfl | (simp; done) | (simp [*]; done)), H', ⟨by have := HK1.out; have := HK2.out; omega⟩, ⟨by (with_reducible repeat (first | apply Kd.R_alloc | apply Kd.R_drewN | apply Kd.R_drew)); exact Kd.R_mono HO_6.out (fun _ hk => trivial)⟩, ⟨by (with_reducible repeat (first | refine blk_drewN ?_ _ | refine blk_drew ?_ | refine blk_alloc ?_ _)); exact BK177.out⟩, ⟨by repeat (first | (with_reducible first | exact HB.out | apply below_alloc | apply pw_below_drewN | apply below_drew1 | refine below_set ?_ GE177.out) | exact HB.out)⟩⟩
                              · rw [if_neg c21] at H
                                have c21b0 : (((rd_T27 l0 x37_2).f0).toList == ((rd_T27 l0 x25_1).f0).toList) = false := beq_eq_false_iff_ne.mpr c21
                                have c21b1 : (((rd_T27 l0 x37_2).f0).toList != ((rd_T27 l0 x25_1).f0).toList) = true := bne_iff_ne.mpr c21
                                have H' := Aside0.mk H
                                clear H
                                have p182 : 0 ≤ (x37_2 : Int) := of_decide_eq_true (by first | (with_reducible assumption) | assumption)
                                have q182 : x37_2 < (l0.length : Int) := of_decide_eq_true (by first | (with_reducible assumption) | assumption)
                                obtain ⟨ad182, e182, hx182_0, hx182_1, hx182_2⟩ := at_T27 HR0.out x37_2 p182 q182
                                obtain rfl : ad176 = ad182 := (by injection e182)
                                replace hx182_0 := (HB.out.cell (World.block_lt_of_cell? w _ hx182_0)).trans hx182_0
                                replace hx182_1 := (HB.out.cell (World.block_lt_of_cell? w _ hx182_1)).trans hx182_1
                                replace hx182_2 := (HB.out.cell (World.block_lt_of_cell? w _ hx182_2)).trans hx182_2
                                replace p182 := eq_true p182
                                replace q182 := eq_true q182
                                go_wp2_with (first | (go_at_call 11; (with_reducible refine (path_Pattern.calls k2 ((rd_T27 l0 x37_2).f1) t183 true _ A18.out).mono ?_); rintro e w38 ⟨v185, rfl, ho0, hb⟩; have n0_ := Aside0.mk (Kd.R_elder' (by (with_reducible repeat (first | apply Kd.R_alloc | apply Kd.R_drewN | apply Kd.R_drew)); exact HO_6.out) (Kd.R_base ho0) hb); have n1_ := Aside0.mk (Kd.R_lower (Kd.R_new' ho0 (Kd.R_lt (by (with_reducible repeat (first | apply Kd.R_alloc | apply Kd.R_drewN | apply Kd.R_drew)); exact HO_6.out))) (below_size (by repeat (first | (with_reducible first | exact HB.out | apply below_alloc | apply pw_below_drewN | apply below_drew1 | refine below_set ?_ GE177.out) | exact HB.out)))); have n2_ := Aside0.mk (blk_below (g := gb177) (o := .cells #[.string ((rd_T27 l0 x25_1).f0), .string ((rd_T27 l0 x25_1).f1), .string ((rd_T27 l0 x25_1).f2)] 27 (0, 0)) (by (with_reducible repeat (first | refine blk_drewN ?_ _ | refine blk_drew ?_ | refine blk_alloc ?_ _)); exact BK177.out) hb); have n3_ := Aside0.mk (below_step (by repeat (first | (with_reducible first | exact HB.out | apply below_alloc | apply pw_below_drewN | apply below_drew1 | refine below_set ?_ GE177.out) | exact HB.out)) hb); clear HO_6; clear BK177; clear HB; have HO_6 := n0_; have HO186 := n1_; have BK177 := n2_; have HB := n3_; clear n0_ n1_ n2_ n3_; (try clear hb); (try clear hb2); (try clear hk); (try clear hi); (try clear ho0); have p187 : 0 ≤ (x37_2 : Int) := of_decide_eq_true (by first | (with_reducible assumption) | assumption); have q187 : x37_2 < (l0.length : Int) := of_decide_eq_true (by first | (with_reducible assumption) | assumption); obtain ⟨ad187, e187, hx187_0, hx187_1, hx187_2⟩ := at_T27 HR0.out x37_2 p187 q187; obtain rfl : ad176 = ad187 := (by injection e187); replace hx187_0 := (HB.out.cell (World.block_lt_of_cell? w _ hx187_0)).trans hx187_0; replace hx187_1 := (HB.out.cell (World.block_lt_of_cell? w _ hx187_1)).trans hx187_1; replace hx187_2 := (HB.out.cell (World.block_lt_of_cell? w _ hx187_2)).trans hx187_2; replace p187 := eq_true p187; replace q187 := eq_true q187; have hcz39_0 : w38.cell? ⟨gb177, 0, none⟩ = some (.string ((rd_T27 l0 x25_1).f0)) := (blk_cell BK177.out 0).trans rfl; have hcz39_1 : w38.cell? ⟨gb177, 1, none⟩ = some (.string ((rd_T27 l0 x25_1).f1)) := (blk_cell BK177.out 1).trans rfl; have hcz39_2 : w38.cell? ⟨gb177, 2, none⟩ = some (.string ((rd_T27 l0 x25_1).f2)) := (blk_cell BK177.out 2).trans rfl; have hfz39_0 := blk_frozen BK177.out 0; have hfz39_1 := blk_frozen BK177.out 1; have hfz39_2 := blk_frozen BK177.out 2))
                                repeat (go_quiet (first | (go_at_call 11; (with_reducible refine (path_Pattern.calls k2 ((rd_T27 l0 x37_2).f1) t183 true _ A18.out).mono ?_); rintro e w38 ⟨v185, rfl, ho0, hb⟩; have n0_ := Aside0.mk (Kd.R_elder' (by (with_reducible repeat (first | apply Kd.R_alloc | apply Kd.R_drewN | apply Kd.R_drew)); exact HO_6.out) (Kd.R_base ho0) hb); have n1_ := Aside0.mk (Kd.R_lower (Kd.R_new' ho0 (Kd.R_lt (by (with_reducible repeat (first | apply Kd.R_alloc | apply Kd.R_drewN | apply Kd.R_drew)); exact HO_6.out))) (below_size (by repeat (first | (with_reducible first | exact HB.out | apply below_alloc | apply pw_below_drewN | apply below_drew1 | refine below_set ?_ GE177.out) | exact HB.out)))); have n2_ := Aside0.mk (blk_below (g := gb177) (o := .cells #[.string ((rd_T27 l0 x25_1).f0), .string ((rd_T27 l0 x25_1).f1), .string ((rd_T27 l0 x25_1).f2)] 27 (0, 0)) (by (with_reducible repeat (first | refine blk_drewN ?_ _ | refine blk_drew ?_ | refine blk_alloc ?_ _)); exact BK177.out) hb); have n3_ := Aside0.mk (below_step (by repeat (first | (with_reducible first | exact HB.out | apply below_alloc | apply pw_below_drewN | apply below_drew1 | refine below_set ?_ GE177.out) | exact HB.out)) hb); clear HO_6; clear BK177; clear HB; have HO_6 := n0_; have HO186 := n1_; have BK177 := n2_; have HB := n3_; clear n0_ n1_ n2_ n3_; (try clear hb); (try clear hb2); (try clear hk); (try clear hi); (try clear ho0); have p187 : 0 ≤ (x37_2 : Int) := of_decide_eq_true (by first | (with_reducible assumption) | assumption); have q187 : x37_2 < (l0.length : Int) := of_decide_eq_true (by first | (with_reducible assumption) | assumption); obtain ⟨ad187, e187, hx187_0, hx187_1, hx187_2⟩ := at_T27 HR0.out x37_2 p187 q187; obtain rfl : ad176 = ad187 := (by injection e187); replace hx187_0 := (HB.out.cell (World.block_lt_of_cell? w _ hx187_0)).trans hx187_0; replace hx187_1 := (HB.out.cell (World.block_lt_of_cell? w _ hx187_1)).trans hx187_1; replace hx187_2 := (HB.out.cell (World.block_lt_of_cell? w _ hx187_2)).trans hx187_2; replace p187 := eq_true p187; replace q187 := eq_true q187; have hcz39_0 : w38.cell? ⟨gb177, 0, none⟩ = some (.string ((rd_T27 l0 x25_1).f0)) := (blk_cell BK177.out 0).trans rfl; have hcz39_1 : w38.cell? ⟨gb177, 1, none⟩ = some (.string ((rd_T27 l0 x25_1).f1)) := (blk_cell BK177.out 1).trans rfl; have hcz39_2 : w38.cell? ⟨gb177, 2, none⟩ = some (.string ((rd_T27 l0 x25_1).f2)) := (blk_cell BK177.out 2).trans rfl; have hfz39_0 := blk_frozen BK177.out 0; have hfz39_1 := blk_frozen BK177.out 1; have hfz39_2 := blk_frozen BK177.out 2)); try go_wp2_with (first | (go_at_call 11; (with_reducible refine (path_Pattern.calls k2 ((rd_T27 l0 x37_2).f1) t183 true _ A18.out).mono ?_); rintro e w38 ⟨v185, rfl, ho0, hb⟩; have n0_ := Aside0.mk (Kd.R_elder' (by (with_reducible repeat (first | apply Kd.R_alloc | apply Kd.R_drewN | apply Kd.R_drew)); exact HO_6.out) (Kd.R_base ho0) hb); have n1_ := Aside0.mk (Kd.R_lower (Kd.R_new' ho0 (Kd.R_lt (by (with_reducible repeat (first | apply Kd.R_alloc | apply Kd.R_drewN | apply Kd.R_drew)); exact HO_6.out))) (below_size (by repeat (first | (with_reducible first | exact HB.out | apply below_alloc | apply pw_below_drewN | apply below_drew1 | refine below_set ?_ GE177.out) | exact HB.out)))); have n2_ := Aside0.mk (blk_below (g := gb177) (o := .cells #[.string ((rd_T27 l0 x25_1).f0), .string ((rd_T27 l0 x25_1).f1), .string ((rd_T27 l0 x25_1).f2)] 27 (0, 0)) (by (with_reducible repeat (first | refine blk_drewN ?_ _ | refine blk_drew ?_ | refine blk_alloc ?_ _)); exact BK177.out) hb); have n3_ := Aside0.mk (below_step (by repeat (first | (with_reducible first | exact HB.out | apply below_alloc | apply pw_below_drewN | apply below_drew1 | refine below_set ?_ GE177.out) | exact HB.out)) hb); clear HO_6; clear BK177; clear HB; have HO_6 := n0_; have HO186 := n1_; have BK177 := n2_; have HB := n3_; clear n0_ n1_ n2_ n3_; (try clear hb); (try clear hb2); (try clear hk); (try clear hi); (try clear ho0); have p187 : 0 ≤ (x37_2 : Int) := of_decide_eq_true (by first | (with_reducible assumption) | assumption); have q187 : x37_2 < (l0.length : Int) := of_decide_eq_true (by first | (with_reducible assumption) | assumption); obtain ⟨ad187, e187, hx187_0, hx187_1, hx187_2⟩ := at_T27 HR0.out x37_2 p187 q187; obtain rfl : ad176 = ad187 := (by injection e187); replace hx187_0 := (HB.out.cell (World.block_lt_of_cell? w _ hx187_0)).trans hx187_0; replace hx187_1 := (HB.out.cell (World.block_lt_of_cell? w _ hx187_1)).trans hx187_1; replace hx187_2 := (HB.out.cell (World.block_lt_of_cell? w _ hx187_2)).trans hx187_2; replace p187 := eq_true p187; replace q187 := eq_true q187; have hcz39_0 : w38.cell? ⟨gb177, 0, none⟩ = some (.string ((rd_T27 l0 x25_1).f0)) := (blk_cell BK177.out 0).trans rfl; have hcz39_1 : w38.cell? ⟨gb177, 1, none⟩ = some (.string ((rd_T27 l0 x25_1).f1)) := (blk_cell BK177.out 1).trans rfl; have hcz39_2 : w38.cell? ⟨gb177, 2, none⟩ = some (.string ((rd_T27 l0 x25_1).f2)) := (blk_cell BK177.out 2).trans rfl; have hfz39_0 := blk_frozen BK177.out 0; have hfz39_1 := blk_frozen BK177.out 1; have hfz39_2 := blk_frozen BK177.out 2)))
                                go_roundg k2
                                case measure => have := HK1.out; have := HK2.out; omega
                                case rel => exact ⟨(x3_2), (wrap64 (x37_2 + 1)), (by first | rfl | (simp; done) | (simp [*]; done)), (by first | rfl | (simp; done) | (simp [*]; done)), H', ⟨by have := HK1.out; have := HK2.out; omega⟩, ⟨by (with_reducible repeat (first | apply Kd.R_alloc | apply Kd.R_drewN | apply Kd.R_drew)); exact Kd.R_mono HO_6.out (fun _ hk => trivial)⟩, ⟨by (with_reducible repeat (first | refine blk_drewN ?_ _ | refine blk_drew ?_ | refine blk_alloc ?_ _)); exact BK177.out⟩, ⟨by repeat (first | (with_reducible first | exact HB.out | apply below_alloc | apply pw_below_drewN | apply below_drew1 | refine below_set ?_ GE177.out) | exact HB.out)⟩⟩
                            · replace c20 := Bool.eq_false_iff.mpr c20
                              subst c20
                              have H1 : (crossroadlaw07_TableChecks.l1 k2 l0 x3_2 t178 true l0 (l0.length : Int) x25_1 x25_1 (wrap64 (x37_2 + 1)) ((rd_T27 l0 x25_1).f0) ((rd_T27 l0 x25_1).f1) ((rd_T27 l0 x25_1).f2)) = some r := by rw [if_neg (show ¬ (false = true) by decide)] at H; exact H
                              clear H
                              have H := H1
                              clear H1
                              have H' := Aside0.mk H
                              clear H
                              have p182 : 0 ≤ (x37_2 : Int) := of_decide_eq_true (by first | (with_reducible assumption) | assumption)
                              have q182 : x37_2 < (l0.length : Int) := of_decide_eq_true (by first | (with_reducible assumption) | assumption)
                              obtain ⟨ad182, e182, hx182_0, hx182_1, hx182_2⟩ := at_T27 HR0.out x37_2 p182 q182
                              obtain rfl : ad176 = ad182 := (by injection e182)
                              replace hx182_0 := (HB.out.cell (World.block_lt_of_cell? w _ hx182_0)).trans hx182_0
                              replace hx182_1 := (HB.out.cell (World.block_lt_of_cell? w _ hx182_1)).trans hx182_1
                              replace hx182_2 := (HB.out.cell (World.block_lt_of_cell? w _ hx182_2)).trans hx182_2
                              replace p182 := eq_true p182
                              replace q182 := eq_true q182
                              go_wp2_with (first | (go_at_call 11; (with_reducible refine (path_Pattern.calls k2 ((rd_T27 l0 x37_2).f1) t183 false _ A18.out).mono ?_); rintro e w40 ⟨v185, rfl, ho0, hb⟩; have n0_ := Aside0.mk (Kd.R_elder' (by (with_reducible repeat (first | apply Kd.R_alloc | apply Kd.R_drewN | apply Kd.R_drew)); exact HO_6.out) (Kd.R_base ho0) hb); have n1_ := Aside0.mk (Kd.R_lower (Kd.R_new' ho0 (Kd.R_lt (by (with_reducible repeat (first | apply Kd.R_alloc | apply Kd.R_drewN | apply Kd.R_drew)); exact HO_6.out))) (below_size (by repeat (first | (with_reducible first | exact HB.out | apply below_alloc | apply pw_below_drewN | apply below_drew1 | refine below_set ?_ GE177.out) | exact HB.out)))); have n2_ := Aside0.mk (blk_below (g := gb177) (o := .cells #[.string ((rd_T27 l0 x25_1).f0), .string ((rd_T27 l0 x25_1).f1), .string ((rd_T27 l0 x25_1).f2)] 27 (0, 0)) (by (with_reducible repeat (first | refine blk_drewN ?_ _ | refine blk_drew ?_ | refine blk_alloc ?_ _)); exact BK177.out) hb); have n3_ := Aside0.mk (below_step (by repeat (first | (with_reducible first | exact HB.out | apply below_alloc | apply pw_below_drewN | apply below_drew1 | refine below_set ?_ GE177.out) | exact HB.out)) hb); clear HO_6; clear BK177; clear HB; have HO_6 := n0_; have HO186 := n1_; have BK177 := n2_; have HB := n3_; clear n0_ n1_ n2_ n3_; (try clear hb); (try clear hb2); (try clear hk); (try clear hi); (try clear ho0)))
                              repeat (go_quiet (first | (go_at_call 11; (with_reducible refine (path_Pattern.calls k2 ((rd_T27 l0 x37_2).f1) t183 false _ A18.out).mono ?_); rintro e w40 ⟨v185, rfl, ho0, hb⟩; have n0_ := Aside0.mk (Kd.R_elder' (by (with_reducible repeat (first | apply Kd.R_alloc | apply Kd.R_drewN | apply Kd.R_drew)); exact HO_6.out) (Kd.R_base ho0) hb); have n1_ := Aside0.mk (Kd.R_lower (Kd.R_new' ho0 (Kd.R_lt (by (with_reducible repeat (first | apply Kd.R_alloc | apply Kd.R_drewN | apply Kd.R_drew)); exact HO_6.out))) (below_size (by repeat (first | (with_reducible first | exact HB.out | apply below_alloc | apply pw_below_drewN | apply below_drew1 | refine below_set ?_ GE177.out) | exact HB.out)))); have n2_ := Aside0.mk (blk_below (g := gb177) (o := .cells #[.string ((rd_T27 l0 x25_1).f0), .string ((rd_T27 l0 x25_1).f1), .string ((rd_T27 l0 x25_1).f2)] 27 (0, 0)) (by (with_reducible repeat (first | refine blk_drewN ?_ _ | refine blk_drew ?_ | refine blk_alloc ?_ _)); exact BK177.out) hb); have n3_ := Aside0.mk (below_step (by repeat (first | (with_reducible first | exact HB.out | apply below_alloc | apply pw_below_drewN | apply below_drew1 | refine below_set ?_ GE177.out) | exact HB.out)) hb); clear HO_6; clear BK177; clear HB; have HO_6 := n0_; have HO186 := n1_; have BK177 := n2_; have HB := n3_; clear n0_ n1_ n2_ n3_; (try clear hb); (try clear hb2); (try clear hk); (try clear hi); (try clear ho0))); try go_wp2_with (first | (go_at_call 11; (with_reducible refine (path_Pattern.calls k2 ((rd_T27 l0 x37_2).f1) t183 false _ A18.out).mono ?_); rintro e w40 ⟨v185, rfl, ho0, hb⟩; have n0_ := Aside0.mk (Kd.R_elder' (by (with_reducible repeat (first | apply Kd.R_alloc | apply Kd.R_drewN | apply Kd.R_drew)); exact HO_6.out) (Kd.R_base ho0) hb); have n1_ := Aside0.mk (Kd.R_lower (Kd.R_new' ho0 (Kd.R_lt (by (with_reducible repeat (first | apply Kd.R_alloc | apply Kd.R_drewN | apply Kd.R_drew)); exact HO_6.out))) (below_size (by repeat (first | (with_reducible first | exact HB.out | apply below_alloc | apply pw_below_drewN | apply below_drew1 | refine below_set ?_ GE177.out) | exact HB.out)))); have n2_ := Aside0.mk (blk_below (g := gb177) (o := .cells #[.string ((rd_T27 l0 x25_1).f0), .string ((rd_T27 l0 x25_1).f1), .string ((rd_T27 l0 x25_1).f2)] 27 (0, 0)) (by (with_reducible repeat (first | refine blk_drewN ?_ _ | refine blk_drew ?_ | refine blk_alloc ?_ _)); exact BK177.out) hb); have n3_ := Aside0.mk (below_step (by repeat (first | (with_reducible first | exact HB.out | apply below_alloc | apply pw_below_drewN | apply below_drew1 | refine below_set ?_ GE177.out) | exact HB.out)) hb); clear HO_6; clear BK177; clear HB; have HO_6 := n0_; have HO186 := n1_; have BK177 := n2_; have HB := n3_; clear n0_ n1_ n2_ n3_; (try clear hb); (try clear hb2); (try clear hk); (try clear hi); (try clear ho0))))
                              go_roundg k2
                              case measure => have := HK1.out; have := HK2.out; omega
                              case rel => exact ⟨(x3_2), (wrap64 (x37_2 + 1)), (by first | rfl | (simp; done) | (simp [*]; done)), (by first | rfl | (simp; done) | (simp [*]; done)), H', ⟨by have := HK1.out; have := HK2.out; omega⟩, ⟨by (with_reducible repeat (first | apply Kd.R_alloc | apply Kd.R_drewN | apply Kd.R_drew)); exact Kd.R_mono HO_6.out (fun _ hk => trivial)⟩, ⟨by (with_reducible repeat (first | refine blk_drewN ?_ _ | refine blk_drew ?_ | refine blk_alloc ?_ _)); exact BK177.out⟩, ⟨by repeat (first | (with_reducible first | exact HB.out | apply below_alloc | apply pw_below_drewN | apply below_drew1 | refine below_set ?_ GE177.out) | exact HB.out)⟩⟩
                          · replace c19 := Bool.eq_false_iff.mpr c19
                            subst c19
                            have H1 : (crossroadlaw07_TableChecks.l1 k2 l0 x3_2 t178 false l0 (l0.length : Int) x25_1 x25_1 (wrap64 (x37_2 + 1)) ((rd_T27 l0 x25_1).f0) ((rd_T27 l0 x25_1).f1) ((rd_T27 l0 x25_1).f2)) = some r := by rw [if_neg (show ¬ (false = true) by decide)] at H; exact H
                            clear H
                            have H := H1
                            clear H1
                            have H' := Aside0.mk H
                            clear H
                            have p182 : 0 ≤ (x37_2 : Int) := of_decide_eq_true (by first | (with_reducible assumption) | assumption)
                            have q182 : x37_2 < (l0.length : Int) := of_decide_eq_true (by first | (with_reducible assumption) | assumption)
                            obtain ⟨ad182, e182, hx182_0, hx182_1, hx182_2⟩ := at_T27 HR0.out x37_2 p182 q182
                            obtain rfl : ad176 = ad182 := (by injection e182)
                            replace hx182_0 := (HB.out.cell (World.block_lt_of_cell? w _ hx182_0)).trans hx182_0
                            replace hx182_1 := (HB.out.cell (World.block_lt_of_cell? w _ hx182_1)).trans hx182_1
                            replace hx182_2 := (HB.out.cell (World.block_lt_of_cell? w _ hx182_2)).trans hx182_2
                            replace p182 := eq_true p182
                            replace q182 := eq_true q182
                            go_wp2_with (first | (go_at_call 11; (with_reducible refine (path_Pattern.calls k2 ((rd_T27 l0 x37_2).f1) t183 t184 _ A18.out).mono ?_); rintro e w41 ⟨v185, rfl, ho0, hb⟩; have n0_ := Aside0.mk (Kd.R_elder' (by (with_reducible repeat (first | apply Kd.R_alloc | apply Kd.R_drewN | apply Kd.R_drew)); exact HO_6.out) (Kd.R_base ho0) hb); have n1_ := Aside0.mk (Kd.R_lower (Kd.R_new' ho0 (Kd.R_lt (by (with_reducible repeat (first | apply Kd.R_alloc | apply Kd.R_drewN | apply Kd.R_drew)); exact HO_6.out))) (below_size (by repeat (first | (with_reducible first | exact HB.out | apply below_alloc | apply pw_below_drewN | apply below_drew1 | refine below_set ?_ GE177.out) | exact HB.out)))); have n2_ := Aside0.mk (blk_below (g := gb177) (o := .cells #[.string ((rd_T27 l0 x25_1).f0), .string ((rd_T27 l0 x25_1).f1), .string ((rd_T27 l0 x25_1).f2)] 27 (0, 0)) (by (with_reducible repeat (first | refine blk_drewN ?_ _ | refine blk_drew ?_ | refine blk_alloc ?_ _)); exact BK177.out) hb); have n3_ := Aside0.mk (below_step (by repeat (first | (with_reducible first | exact HB.out | apply below_alloc | apply pw_below_drewN | apply below_drew1 | refine below_set ?_ GE177.out) | exact HB.out)) hb); clear HO_6; clear BK177; clear HB; have HO_6 := n0_; have HO186 := n1_; have BK177 := n2_; have HB := n3_; clear n0_ n1_ n2_ n3_; (try clear hb); (try clear hb2); (try clear hk); (try clear hi); (try clear ho0)))
                            repeat (go_quiet (first | (go_at_call 11; (with_reducible refine (path_Pattern.calls k2 ((rd_T27 l0 x37_2).f1) t183 t184 _ A18.out).mono ?_); rintro e w41 ⟨v185, rfl, ho0, hb⟩; have n0_ := Aside0.mk (Kd.R_elder' (by (with_reducible repeat (first | apply Kd.R_alloc | apply Kd.R_drewN | apply Kd.R_drew)); exact HO_6.out) (Kd.R_base ho0) hb); have n1_ := Aside0.mk (Kd.R_lower (Kd.R_new' ho0 (Kd.R_lt (by (with_reducible repeat (first | apply Kd.R_alloc | apply Kd.R_drewN | apply Kd.R_drew)); exact HO_6.out))) (below_size (by repeat (first | (with_reducible first | exact HB.out | apply below_alloc | apply pw_below_drewN | apply below_drew1 | refine below_set ?_ GE177.out) | exact HB.out)))); have n2_ := Aside0.mk (blk_below (g := gb177) (o := .cells #[.string ((rd_T27 l0 x25_1).f0), .string ((rd_T27 l0 x25_1).f1), .string ((rd_T27 l0 x25_1).f2)] 27 (0, 0)) (by (with_reducible repeat (first | refine blk_drewN ?_ _ | refine blk_drew ?_ | refine blk_alloc ?_ _)); exact BK177.out) hb); have n3_ := Aside0.mk (below_step (by repeat (first | (with_reducible first | exact HB.out | apply below_alloc | apply pw_below_drewN | apply below_drew1 | refine below_set ?_ GE177.out) | exact HB.out)) hb); clear HO_6; clear BK177; clear HB; have HO_6 := n0_; have HO186 := n1_; have BK177 := n2_; have HB := n3_; clear n0_ n1_ n2_ n3_; (try clear hb); (try clear hb2); (try clear hk); (try clear hi); (try clear ho0))); try go_wp2_with (first | (go_at_call 11; (with_reducible refine (path_Pattern.calls k2 ((rd_T27 l0 x37_2).f1) t183 t184 _ A18.out).mono ?_); rintro e w41 ⟨v185, rfl, ho0, hb⟩; have n0_ := Aside0.mk (Kd.R_elder' (by (with_reducible repeat (first | apply Kd.R_alloc | apply Kd.R_drewN | apply Kd.R_drew)); exact HO_6.out) (Kd.R_base ho0) hb); have n1_ := Aside0.mk (Kd.R_lower (Kd.R_new' ho0 (Kd.R_lt (by (with_reducible repeat (first | apply Kd.R_alloc | apply Kd.R_drewN | apply Kd.R_drew)); exact HO_6.out))) (below_size (by repeat (first | (with_reducible first | exact HB.out | apply below_alloc | apply pw_below_drewN | apply below_drew1 | refine below_set ?_ GE177.out) | exact HB.out)))); have n2_ := Aside0.mk (blk_below (g := gb177) (o := .cells #[.string ((rd_T27 l0 x25_1).f0), .string ((rd_T27 l0 x25_1).f1), .string ((rd_T27 l0 x25_1).f2)] 27 (0, 0)) (by (with_reducible repeat (first | refine blk_drewN ?_ _ | refine blk_drew ?_ | refine blk_alloc ?_ _)); exact BK177.out) hb); have n3_ := Aside0.mk (below_step (by repeat (first | (with_reducible first | exact HB.out | apply below_alloc | apply pw_below_drewN | apply below_drew1 | refine below_set ?_ GE177.out) | exact HB.out)) hb); clear HO_6; clear BK177; clear HB; have HO_6 := n0_; have HO186 := n1_; have BK177 := n2_; have HB := n3_; clear n0_ n1_ n2_ n3_; (try clear hb); (try clear hb2); (try clear hk); (try clear hi); (try clear ho0))))
                            go_roundg k2
                            case measure => have := HK1.out; have := HK2.out; omega
                            case rel => exact ⟨(x3_2), (wrap64 (x37_2 + 1)), (by first | rfl | (simp; done) | (simp [*]; done)), (by first | rfl | (simp; done) | (simp [*]; done)), H', ⟨by have := HK1.out; have := HK2.out; omega⟩, ⟨by (with_reducible repeat (first | apply Kd.R_alloc | apply Kd.R_drewN | apply Kd.R_drew)); exact Kd.R_mono HO_6.out (fun _ hk => trivial)⟩, ⟨by (with_reducible repeat (first | refine blk_drewN ?_ _ | refine blk_drew ?_ | refine blk_alloc ?_ _)); exact BK177.out⟩, ⟨by repeat (first | (with_reducible first | exact HB.out | apply below_alloc | apply pw_below_drewN | apply below_drew1 | refine below_set ?_ GE177.out) | exact HB.out)⟩⟩
                        · rw [if_neg c17] at H
                          exact absurd H (by simp)
                      · rw [if_neg c16] at H
                        exact absurd H (by simp)
                    · rw [if_neg c15] at H
                      have c15b0 : decide (x37_2 < x25_1) = false := decide_eq_false c15
                      clear c15
                      have H' := Aside0.mk H
                      clear H
                      go_wp2
                      repeat (go_quiet (fail); try go_wp2)
                      go_roundg k2
                      case measure => have := HK1.out; have := HK2.out; omega
                      case rel => exact ⟨(x3_2), (wrap64 (x25_1 + 1)), (by first | rfl | (simp; done) | (simp [*]; done)), (by first | rfl | (simp; done) | (simp [*]; done)), H', ⟨by have := HK1.out; have := HK2.out; omega⟩, ⟨by repeat (first | (with_reducible first | exact HB.out | apply below_alloc | apply pw_below_drewN | apply below_drew1 | refine below_set ?_ GE177.out) | exact HB.out)⟩⟩
              · rw [if_neg c10] at H
                exact absurd H (by simp)
            · rw [if_neg c9] at H
              exact absurd H (by simp)
          · rw [if_neg c8] at H
            have c8b0 : decide (x25_1 < (l0.length : Int)) = false := decide_eq_false c8
            clear c8
            have HC42 := Aside0.mk H
            clear H
            go_upto_if 78 with (fail)
            repeat (go_quiet (fail); go_upto_if 78 with (fail))
            go_cut [3] (fun v3 wc => ∃ (kq : Nat) (x3_41 : Int), v3 = .int .i64 x3_41 ∧ Aside0 (crossroadlaw07_TableChecks.j2 kq l0 x3_41 = some r) ∧ Aside0 (kq ≤ k1) ∧ Aside0 (Below w.heap.size w wc))
            case first =>
              have H := HC42.out
              clear HC42
              by_cases c43 : (l0.length : Int) > 24
              · rw [if_pos c43] at H
                have c43b0 : decide (24 < (l0.length : Int)) = true := decide_eq_true c43
                have c43b1 : decide (24 < l0.length) = true := decide_eq_true (by omega)
                clear c43
                (first | rw [c43b0] | (simp only [i64_w, i32_w]; rw [c43b0]) | skip)
                have H' := Aside0.mk H
                clear H
                go_wp2
                repeat (go_quiet (fail); try go_wp2)
                go_meet
                case rel => exact ⟨_, (2), (by first | rfl | (simp; done) | (simp [*]; done)), H', ⟨by have := HK1.out; first | omega | exact Nat.le_refl _⟩, ⟨by repeat (first | (with_reducible first | exact HB.out | apply below_alloc | apply pw_below_drewN | apply below_drew1) | exact HB.out)⟩⟩
              · rw [if_neg c43] at H
                have c43b0 : decide (24 < (l0.length : Int)) = false := decide_eq_false c43
                have c43b1 : decide (24 < l0.length) = false := decide_eq_false (by omega)
                clear c43
                (first | rw [c43b0] | (simp only [i64_w, i32_w]; rw [c43b0]) | skip)
                have H' := Aside0.mk H
                clear H
                go_wp2
                repeat (go_quiet (fail); try go_wp2)
                go_meet
                case rel => exact ⟨_, (x3_1), (by first | rfl | (simp; done) | (simp [*]; done)), H', ⟨by have := HK1.out; first | omega | exact Nat.le_refl _⟩, ⟨by repeat (first | (with_reducible first | exact HB.out | apply below_alloc | apply pw_below_drewN | apply below_drew1) | exact HB.out)⟩⟩
            case rest =>
              clear HC42
              try clear c1
              try clear p1
              try clear q1
              try clear hx1
              try clear c2
              try clear p2
              try clear c3
              try clear c4
              try clear c5
              try clear p6
              try clear c8
              try clear c8b0
              try clear c9
              try clear c9b0
              try clear c10
              try clear c10b0
              try clear c15
              try clear c15b0
              try clear c16
              try clear c16b0
              try clear c17
              try clear c17b0
              try clear p17
              try clear q17
              try clear hx17
              try clear p18
              try clear q18
              try clear hx18
              try clear c19
              try clear c20
              try clear c21
              try clear c21b0
              try clear c21b1
              try clear c24
              try clear c24b0
              try clear c24b1
              try clear c25
              try clear c25b0
              try clear c25b1
              try clear c43
              try clear c43b0
              try clear c43b1
              try clear hcz13_0
              try clear hcz13_1
              try clear hcz13_2
              try clear hcz27_0
              try clear hcz27_1
              try clear hcz27_2
              try clear hcz31_0
              try clear hcz31_1
              try clear hcz31_2
              try clear hcz35_0
              try clear hcz35_1
              try clear hcz35_2
              try clear hcz39_0
              try clear hcz39_1
              try clear hcz39_2
              try clear hfz13_0
              try clear hfz13_1
              try clear hfz13_2
              try clear hfz27_0
              try clear hfz27_1
              try clear hfz27_2
              try clear hfz31_0
              try clear hfz31_1
              try clear hfz31_2
              try clear hfz35_0
              try clear hfz35_1
              try clear hfz35_2
              try clear hfz39_0
              try clear hfz39_1
              try clear hfz39_2
              try clear hx176_0
              try clear hx176_1
              try clear hx176_2
              try clear hx182_0
              try clear hx182_1
              try clear hx182_2
              try clear hx187_0
              try clear hx187_1
              try clear hx187_2
              try clear p1
              try clear p176
              try clear p182
              try clear p187
              try clear p2
              try clear q1
              try clear q176
              try clear q182
              try clear q187
              obtain ⟨kq, x3_41, rfl, HA, HJ41, HB⟩ := hcut
              cases kq with
              | zero => exact absurd HA.out (by simp [crossroadlaw07_TableChecks.j2])
              | succ kj41 =>
                have H := HA.out
                clear HA
                simp only [crossroadlaw07_TableChecks.j2] at H
                have H' := Aside0.mk H
                clear H
                go_wp2
                repeat (go_quiet (fail); try go_wp2)
                go_loopg [3, 81] kj41 (fun kq v3 v81 w' => ∃ (x3_3 : Int) (x81_3 : Int), v3 = .int .i64 x3_3 ∧ v81 = .int .i64 x81_3 ∧ Aside0 (crossroadlaw07_TableChecks.l2 kq l0 x3_3 l0 (l0.length : Int) x81_3 = some r) ∧ Aside0 (kq ≤ kj41) ∧ Aside0 (Below w.heap.size w w'))
                case atStart => exact ⟨(x3_41), (0), (by first | rfl | (simp; done) | (simp [*]; done)), (by first | rfl | (simp; done) | (simp [*]; done)), H', ⟨Nat.le_refl _⟩, ⟨by repeat (first | (with_reducible first | exact HB.out | apply below_alloc | apply pw_below_drewN | apply below_drew1) | exact HB.out)⟩⟩
                case round =>
                  clear H'
                  try clear c1
                  try clear p1
                  try clear q1
                  try clear hx1
                  try clear c2
                  try clear p2
                  try clear c3
                  try clear c4
                  try clear c5
                  try clear p6
                  try clear c8
                  try clear c8b0
                  try clear c9
                  try clear c9b0
                  try clear c10
                  try clear c10b0
                  try clear c15
                  try clear c15b0
                  try clear c16
                  try clear c16b0
                  try clear c17
                  try clear c17b0
                  try clear p17
                  try clear q17
                  try clear hx17
                  try clear p18
                  try clear q18
                  try clear hx18
                  try clear c19
                  try clear c20
                  try clear c21
                  try clear c21b0
                  try clear c21b1
                  try clear c24
                  try clear c24b0
                  try clear c24b1
                  try clear c25
                  try clear c25b0
                  try clear c25b1
                  try clear c43
                  try clear c43b0
                  try clear c43b1
                  try clear hcz13_0
                  try clear hcz13_1
                  try clear hcz13_2
                  try clear hcz27_0
                  try clear hcz27_1
                  try clear hcz27_2
                  try clear hcz31_0
                  try clear hcz31_1
                  try clear hcz31_2
                  try clear hcz35_0
                  try clear hcz35_1
                  try clear hcz35_2
                  try clear hcz39_0
                  try clear hcz39_1
                  try clear hcz39_2
                  try clear hfz13_0
                  try clear hfz13_1
                  try clear hfz13_2
                  try clear hfz27_0
                  try clear hfz27_1
                  try clear hfz27_2
                  try clear hfz31_0
                  try clear hfz31_1
                  try clear hfz31_2
                  try clear hfz35_0
                  try clear hfz35_1
                  try clear hfz35_2
                  try clear hfz39_0
                  try clear hfz39_1
                  try clear hfz39_2
                  try clear hx176_0
                  try clear hx176_1
                  try clear hx176_2
                  try clear hx182_0
                  try clear hx182_1
                  try clear hx182_2
                  try clear hx187_0
                  try clear hx187_1
                  try clear hx187_2
                  try clear p1
                  try clear p17
                  try clear p176
                  try clear p18
                  try clear p182
                  try clear p187
                  try clear p2
                  try clear p6
                  try clear q1
                  try clear q17
                  try clear q176
                  try clear q18
                  try clear q182
                  try clear q187
                  obtain ⟨x3_3, x81_3, rfl, rfl, HA, HK3, HB⟩ := hrel
                  cases gk with
                  | zero => exact absurd HA.out (by simp [crossroadlaw07_TableChecks.l2])
                  | succ k3 =>
                    have H := HA.out
                    clear HA
                    simp only [crossroadlaw07_TableChecks.l2] at H
                    by_cases c44 : x81_3 < (l0.length : Int)
                    · rw [if_pos c44] at H
                      have c44b0 : decide (x81_3 < (l0.length : Int)) = true := decide_eq_true c44
                      clear c44
                      by_cases c45 : 0 ≤ x81_3
                      · rw [if_pos c45] at H
                        have c45b0 : decide (0 ≤ x81_3) = true := decide_eq_true c45
                        clear c45
                        by_cases c46 : x81_3 < (l0.length : Int)
                        · rw [if_pos c46] at H
                          have c46b0 : decide (x81_3 < (l0.length : Int)) = true := decide_eq_true c46
                          clear c46
                          replace H := Option.bind_eq_some_iff.mp H
                          obtain ⟨⟨t193, t194⟩, A470, H⟩ := H
                          replace H : ((some (([(⟨#[103, 101, 116]⟩ : ByteArray), (⟨#[112, 117, 116]⟩ : ByteArray), (⟨#[100, 101, 108, 101, 116, 101]⟩ : ByteArray), (⟨#[108, 105, 115, 116]⟩ : ByteArray), (⟨#[119, 97, 108, 107]⟩ : ByteArray), (⟨#[104, 101, 97, 108, 116, 104]⟩ : ByteArray), (⟨#[114, 101, 108, 111, 97, 100]⟩ : ByteArray), (⟨#[115, 104, 117, 116, 100, 111, 119, 110]⟩ : ByteArray)] : List ByteArray) : List ByteArray)).bind fun y197 => (crossroadlaw07_TableChecks.l3 k3 l0 x3_3 t194 false l0 (l0.length : Int) x81_3 y197 (y197.length : Int) 0 ((rd_T27 l0 x81_3).f0) ((rd_T27 l0 x81_3).f1) ((rd_T27 l0 x81_3).f2))) = some r := H
                          have A47 := Aside0.mk A470
                          clear A470
                          obtain ⟨y197, hy197⟩ : ∃ y_ : List ByteArray, y_ = (([(⟨#[103, 101, 116]⟩ : ByteArray), (⟨#[112, 117, 116]⟩ : ByteArray), (⟨#[100, 101, 108, 101, 116, 101]⟩ : ByteArray), (⟨#[108, 105, 115, 116]⟩ : ByteArray), (⟨#[119, 97, 108, 107]⟩ : ByteArray), (⟨#[104, 101, 97, 108, 116, 104]⟩ : ByteArray), (⟨#[114, 101, 108, 111, 97, 100]⟩ : ByteArray), (⟨#[115, 104, 117, 116, 100, 111, 119, 110]⟩ : ByteArray)] : List ByteArray)) := ⟨_, rfl⟩
                          replace H : (crossroadlaw07_TableChecks.l3 k3 l0 x3_3 t194 false l0 (l0.length : Int) x81_3 y197 (y197.length : Int) 0 ((rd_T27 l0 x81_3).f0) ((rd_T27 l0 x81_3).f1) ((rd_T27 l0 x81_3).f2)) = some r := by first | (rw [hy197]; with_reducible exact H) | (have H2_ := (Option.bind_some _ _).symm.trans H; rw [hy197]; with_reducible exact H2_) | (have H2_ := (Option.bind_some _ _).symm.trans H; with_reducible exact H2_) | with_reducible exact H | (rw [hy197]; exact H) | exact H
                          have Ny197 := Aside0.mk hy197
                          clear hy197
                          have H' := Aside0.mk H
                          clear H
                          have p191 : 0 ≤ (x81_3 : Int) := of_decide_eq_true (by first | (with_reducible assumption) | assumption)
                          have q191 : x81_3 < (l0.length : Int) := of_decide_eq_true (by first | (with_reducible assumption) | assumption)
                          obtain ⟨ad191, e191, hx191_0, hx191_1, hx191_2⟩ := at_T27 HR0.out x81_3 p191 q191
                          cases e191
                          replace hx191_0 := (HB.out.cell (World.block_lt_of_cell? w _ hx191_0)).trans hx191_0
                          replace hx191_1 := (HB.out.cell (World.block_lt_of_cell? w _ hx191_1)).trans hx191_1
                          replace hx191_2 := (HB.out.cell (World.block_lt_of_cell? w _ hx191_2)).trans hx191_2
                          replace p191 := eq_true p191
                          replace q191 := eq_true q191
                          go_wp2_with (first | ((with_reducible refine gate_dst (N := 12) rfl ?_); refine box_event ?hg (N := 12) ?hd (cs := #[.string (⟨#[]⟩ : ByteArray), .string (⟨#[]⟩ : ByteArray), .string (⟨#[]⟩ : ByteArray)]) (t := 27) ?hr ?_; (case hd => rfl); (case hg => rfl); (case hr => first | (go_simp; done) | (go_simp; rfl)); intro gb192 hg w48 hbox hb; have n0_ := Aside0.mk (below_step (by repeat (first | (with_reducible first | exact HB.out | apply below_alloc | apply pw_below_drewN | apply below_drew1) | exact HB.out)) hb); have n1_ := Aside0.mk (hbox); have n2_ := Aside0.mk ((by rw [hg]; exact (below_size (by repeat (first | (with_reducible first | exact HB.out | apply below_alloc | apply pw_below_drewN | apply below_drew1) | exact HB.out))) : w.heap.size ≤ gb192)); have n3_ := Aside0.mk ((by rw [hg]; exact (below_size (by repeat (first | (with_reducible first | exact HB.out | apply below_alloc | apply pw_below_drewN | apply below_drew1) | exact HB.out))) : w.heap.size ≤ gb192)); clear HB; have HB := n0_; have BK192 := n1_; have GW192 := n2_; have GE192 := n3_; clear n0_ n1_ n2_ n3_; clear hb hbox hg; have hcz49_0 : w48.cell? ⟨gb192, 0, none⟩ = some (.string (⟨#[]⟩ : ByteArray)) := (blk_cell BK192.out 0).trans rfl; have hcz49_1 : w48.cell? ⟨gb192, 1, none⟩ = some (.string (⟨#[]⟩ : ByteArray)) := (blk_cell BK192.out 1).trans rfl; have hcz49_2 : w48.cell? ⟨gb192, 2, none⟩ = some (.string (⟨#[]⟩ : ByteArray)) := (blk_cell BK192.out 2).trans rfl; have hfz49_0 := blk_frozen BK192.out 0; have hfz49_1 := blk_frozen BK192.out 1; have hfz49_2 := blk_frozen BK192.out 2) | (go_at_call 11; (with_reducible refine (path_Pattern.calls k3 ((rd_T27 l0 x81_3).f1) t193 t194 _ A47.out).mono ?_); rintro e w50 ⟨v195, rfl, ho0, hb⟩; have n0_ := Aside0.mk (Kd.R_lower ho0 (below_size (by repeat (first | (with_reducible first | exact HB.out | apply below_alloc | apply pw_below_drewN | apply below_drew1 | refine below_set ?_ GE192.out) | exact HB.out)))); have n1_ := Aside0.mk (blk_below (g := gb192) (o := .cells #[.string ((rd_T27 l0 x81_3).f0), .string ((rd_T27 l0 x81_3).f1), .string ((rd_T27 l0 x81_3).f2)] 27 (0, 0)) (by (with_reducible repeat (first | refine blk_drewN ?_ _ | refine blk_drew ?_ | refine blk_alloc ?_ _)); refine blk_put (cs := #[.string ((rd_T27 l0 x81_3).f0), .string ((rd_T27 l0 x81_3).f1), .string (⟨#[]⟩ : ByteArray)]) ?_ 2 _ rfl; (with_reducible repeat (first | refine blk_drewN ?_ _ | refine blk_drew ?_ | refine blk_alloc ?_ _)); refine blk_put (cs := #[.string ((rd_T27 l0 x81_3).f0), .string (⟨#[]⟩ : ByteArray), .string (⟨#[]⟩ : ByteArray)]) ?_ 1 _ rfl; (with_reducible repeat (first | refine blk_drewN ?_ _ | refine blk_drew ?_ | refine blk_alloc ?_ _)); refine blk_put (cs := #[.string (⟨#[]⟩ : ByteArray), .string (⟨#[]⟩ : ByteArray), .string (⟨#[]⟩ : ByteArray)]) ?_ 0 _ rfl; (with_reducible repeat (first | refine blk_drewN ?_ _ | refine blk_drew ?_ | refine blk_alloc ?_ _)); exact BK192.out) hb); have n2_ := Aside0.mk (below_step (by repeat (first | (with_reducible first | exact HB.out | apply below_alloc | apply pw_below_drewN | apply below_drew1 | refine below_set ?_ GE192.out) | exact HB.out)) hb); clear BK192; clear HB; have HO196 := n0_; have BK192 := n1_; have HB := n2_; clear n0_ n1_ n2_; (try clear hb); (try clear hb2); (try clear hk); (try clear hi); (try clear ho0)) | ((with_reducible refine gate_dst (N := 91) rfl ?_); refine Kd.R_lit Kd.string _ 9 ?hg (N := 91) ?hd (xs := ([(⟨#[103, 101, 116]⟩ : ByteArray), (⟨#[112, 117, 116]⟩ : ByteArray), (⟨#[100, 101, 108, 101, 116, 101]⟩ : ByteArray), (⟨#[108, 105, 115, 116]⟩ : ByteArray), (⟨#[119, 97, 108, 107]⟩ : ByteArray), (⟨#[104, 101, 97, 108, 116, 104]⟩ : ByteArray), (⟨#[114, 101, 108, 111, 97, 100]⟩ : ByteArray), (⟨#[115, 104, 117, 116, 100, 111, 119, 110]⟩ : ByteArray)] : List ByteArray)) (inner := [.string (⟨#[103, 101, 116]⟩ : ByteArray), .string (⟨#[112, 117, 116]⟩ : ByteArray), .string (⟨#[100, 101, 108, 101, 116, 101]⟩ : ByteArray), .string (⟨#[108, 105, 115, 116]⟩ : ByteArray), .string (⟨#[119, 97, 108, 107]⟩ : ByteArray), .string (⟨#[104, 101, 97, 108, 116, 104]⟩ : ByteArray), .string (⟨#[114, 101, 108, 111, 97, 100]⟩ : ByteArray), .string (⟨#[115, 104, 117, 116, 100, 111, 119, 110]⟩ : ByteArray)]) (ok := fun _ => True) (okp := fun _ => True) ?hr ?hp (fun _ hk => hk) trivial (Below.refl _ _) (Nat.le_refl _) (by simp) ?_; (case hd => rfl); (case hg => rfl); (case hr => first | (go_simp; done) | (go_simp; rfl)); (case hp => exact (Reps.one (show Kd.M Kd.string _ _ _ (⟨#[103, 101, 116]⟩ : ByteArray) [.string (⟨#[103, 101, 116]⟩ : ByteArray)] from rfl) (Reps.one (show Kd.M Kd.string _ _ _ (⟨#[112, 117, 116]⟩ : ByteArray) [.string (⟨#[112, 117, 116]⟩ : ByteArray)] from rfl) (Reps.one (show Kd.M Kd.string _ _ _ (⟨#[100, 101, 108, 101, 116, 101]⟩ : ByteArray) [.string (⟨#[100, 101, 108, 101, 116, 101]⟩ : ByteArray)] from rfl) (Reps.one (show Kd.M Kd.string _ _ _ (⟨#[108, 105, 115, 116]⟩ : ByteArray) [.string (⟨#[108, 105, 115, 116]⟩ : ByteArray)] from rfl) (Reps.one (show Kd.M Kd.string _ _ _ (⟨#[119, 97, 108, 107]⟩ : ByteArray) [.string (⟨#[119, 97, 108, 107]⟩ : ByteArray)] from rfl) (Reps.one (show Kd.M Kd.string _ _ _ (⟨#[104, 101, 97, 108, 116, 104]⟩ : ByteArray) [.string (⟨#[104, 101, 97, 108, 116, 104]⟩ : ByteArray)] from rfl) (Reps.one (show Kd.M Kd.string _ _ _ (⟨#[114, 101, 108, 111, 97, 100]⟩ : ByteArray) [.string (⟨#[114, 101, 108, 111, 97, 100]⟩ : ByteArray)] from rfl) (Reps.one (show Kd.M Kd.string _ _ _ (⟨#[115, 104, 117, 116, 100, 111, 119, 110]⟩ : ByteArray) [.string (⟨#[115, 104, 117, 116, 100, 111, 119, 110]⟩ : ByteArray)] from rfl) (Reps.none _ _)))))))))); intro v198 w51 ho52 hb hg_ hnew_; clear hg_ hnew_; (first | rw [← Ny197.out] at ho52 | (simp only [Int.reduceToNat] at ho52; rw [← Ny197.out] at ho52)); have n0_ := Aside0.mk (Kd.R_elder' (by (with_reducible repeat (first | apply Kd.R_alloc | apply Kd.R_drewN | apply Kd.R_drew)); exact HO196.out) (Kd.R_base ho52) hb); have n1_ := Aside0.mk (Kd.R_lower (Kd.R_new' ho52 (Kd.R_lt (by (with_reducible repeat (first | apply Kd.R_alloc | apply Kd.R_drewN | apply Kd.R_drew)); exact HO196.out))) (below_size (by repeat (first | (with_reducible first | exact HB.out | apply below_alloc | apply pw_below_drewN | apply below_drew1 | refine below_set ?_ GE192.out) | exact HB.out)))); have n2_ := Aside0.mk (blk_below (g := gb192) (o := .cells #[.string ((rd_T27 l0 x81_3).f0), .string ((rd_T27 l0 x81_3).f1), .string ((rd_T27 l0 x81_3).f2)] 27 (0, 0)) (by (with_reducible repeat (first | refine blk_drewN ?_ _ | refine blk_drew ?_ | refine blk_alloc ?_ _)); exact BK192.out) hb); have n3_ := Aside0.mk (below_step (by repeat (first | (with_reducible first | exact HB.out | apply below_alloc | apply pw_below_drewN | apply below_drew1 | refine below_set ?_ GE192.out) | exact HB.out)) hb); clear HO196; clear BK192; clear HB; have HO196 := n0_; have HO199 := n1_; have BK192 := n2_; have HB := n3_; clear n0_ n1_ n2_ n3_; clear hb ho52; obtain ⟨Ao53, co53, eo53⟩ := Kd.R_slice HO199.out; subst eo53))
                          repeat (go_quiet (first | ((with_reducible refine gate_dst (N := 12) rfl ?_); refine box_event ?hg (N := 12) ?hd (cs := #[.string (⟨#[]⟩ : ByteArray), .string (⟨#[]⟩ : ByteArray), .string (⟨#[]⟩ : ByteArray)]) (t := 27) ?hr ?_; (case hd => rfl); (case hg => rfl); (case hr => first | (go_simp; done) | (go_simp; rfl)); intro gb192 hg w48 hbox hb; have n0_ := Aside0.mk (below_step (by repeat (first | (with_reducible first | exact HB.out | apply below_alloc | apply pw_below_drewN | apply below_drew1) | exact HB.out)) hb); have n1_ := Aside0.mk (hbox); have n2_ := Aside0.mk ((by rw [hg]; exact (below_size (by repeat (first | (with_reducible first | exact HB.out | apply below_alloc | apply pw_below_drewN | apply below_drew1) | exact HB.out))) : w.heap.size ≤ gb192)); have n3_ := Aside0.mk ((by rw [hg]; exact (below_size (by repeat (first | (with_reducible first | exact HB.out | apply below_alloc | apply pw_below_drewN | apply below_drew1) | exact HB.out))) : w.heap.size ≤ gb192)); clear HB; have HB := n0_; have BK192 := n1_; have GW192 := n2_; have GE192 := n3_; clear n0_ n1_ n2_ n3_; clear hb hbox hg; have hcz49_0 : w48.cell? ⟨gb192, 0, none⟩ = some (.string (⟨#[]⟩ : ByteArray)) := (blk_cell BK192.out 0).trans rfl; have hcz49_1 : w48.cell? ⟨gb192, 1, none⟩ = some (.string (⟨#[]⟩ : ByteArray)) := (blk_cell BK192.out 1).trans rfl; have hcz49_2 : w48.cell? ⟨gb192, 2, none⟩ = some (.string (⟨#[]⟩ : ByteArray)) := (blk_cell BK192.out 2).trans rfl; have hfz49_0 := blk_frozen BK192.out 0; have hfz49_1 := blk_frozen BK192.out 1; have hfz49_2 := blk_frozen BK192.out 2) | (go_at_call 11; (with_reducible refine (path_Pattern.calls k3 ((rd_T27 l0 x81_3).f1) t193 t194 _ A47.out).mono ?_); rintro e w50 ⟨v195, rfl, ho0, hb⟩; have n0_ := Aside0.mk (Kd.R_lower ho0 (below_size (by repeat (first | (with_reducible first | exact HB.out | apply below_alloc | apply pw_below_drewN | apply below_drew1 | refine below_set ?_ GE192.out) | exact HB.out)))); have n1_ := Aside0.mk (blk_below (g := gb192) (o := .cells #[.string ((rd_T27 l0 x81_3).f0), .string ((rd_T27 l0 x81_3).f1), .string ((rd_T27 l0 x81_3).f2)] 27 (0, 0)) (by (with_reducible repeat (first | refine blk_drewN ?_ _ | refine blk_drew ?_ | refine blk_alloc ?_ _)); refine blk_put (cs := #[.string ((rd_T27 l0 x81_3).f0), .string ((rd_T27 l0 x81_3).f1), .string (⟨#[]⟩ : ByteArray)]) ?_ 2 _ rfl; (with_reducible repeat (first | refine blk_drewN ?_ _ | refine blk_drew ?_ | refine blk_alloc ?_ _)); refine blk_put (cs := #[.string ((rd_T27 l0 x81_3).f0), .string (⟨#[]⟩ : ByteArray), .string (⟨#[]⟩ : ByteArray)]) ?_ 1 _ rfl; (with_reducible repeat (first | refine blk_drewN ?_ _ | refine blk_drew ?_ | refine blk_alloc ?_ _)); refine blk_put (cs := #[.string (⟨#[]⟩ : ByteArray), .string (⟨#[]⟩ : ByteArray), .string (⟨#[]⟩ : ByteArray)]) ?_ 0 _ rfl; (with_reducible repeat (first | refine blk_drewN ?_ _ | refine blk_drew ?_ | refine blk_alloc ?_ _)); exact BK192.out) hb); have n2_ := Aside0.mk (below_step (by repeat (first | (with_reducible first | exact HB.out | apply below_alloc | apply pw_below_drewN | apply below_drew1 | refine below_set ?_ GE192.out) | exact HB.out)) hb); clear BK192; clear HB; have HO196 := n0_; have BK192 := n1_; have HB := n2_; clear n0_ n1_ n2_; (try clear hb); (try clear hb2); (try clear hk); (try clear hi); (try clear ho0)) | ((with_reducible refine gate_dst (N := 91) rfl ?_); refine Kd.R_lit Kd.string _ 9 ?hg (N := 91) ?hd (xs := ([(⟨#[103, 101, 116]⟩ : ByteArray), (⟨#[112, 117, 116]⟩ : ByteArray), (⟨#[100, 101, 108, 101, 116, 101]⟩ : ByteArray), (⟨#[108, 105, 115, 116]⟩ : ByteArray), (⟨#[119, 97, 108, 107]⟩ : ByteArray), (⟨#[104, 101, 97, 108, 116, 104]⟩ : ByteArray), (⟨#[114, 101, 108, 111, 97, 100]⟩ : ByteArray), (⟨#[115, 104, 117, 116, 100, 111, 119, 110]⟩ : ByteArray)] : List ByteArray)) (inner := [.string (⟨#[103, 101, 116]⟩ : ByteArray), .string (⟨#[112, 117, 116]⟩ : ByteArray), .string (⟨#[100, 101, 108, 101, 116, 101]⟩ : ByteArray), .string (⟨#[108, 105, 115, 116]⟩ : ByteArray), .string (⟨#[119, 97, 108, 107]⟩ : ByteArray), .string (⟨#[104, 101, 97, 108, 116, 104]⟩ : ByteArray), .string (⟨#[114, 101, 108, 111, 97, 100]⟩ : ByteArray), .string (⟨#[115, 104, 117, 116, 100, 111, 119, 110]⟩ : ByteArray)]) (ok := fun _ => True) (okp := fun _ => True) ?hr ?hp (fun _ hk => hk) trivial (Below.refl _ _) (Nat.le_refl _) (by simp) ?_; (case hd => rfl); (case hg => rfl); (case hr => first | (go_simp; done) | (go_simp; rfl)); (case hp => exact (Reps.one (show Kd.M Kd.string _ _ _ (⟨#[103, 101, 116]⟩ : ByteArray) [.string (⟨#[103, 101, 116]⟩ : ByteArray)] from rfl) (Reps.one (show Kd.M Kd.string _ _ _ (⟨#[112, 117, 116]⟩ : ByteArray) [.string (⟨#[112, 117, 116]⟩ : ByteArray)] from rfl) (Reps.one (show Kd.M Kd.string _ _ _ (⟨#[100, 101, 108, 101, 116, 101]⟩ : ByteArray) [.string (⟨#[100, 101, 108, 101, 116, 101]⟩ : ByteArray)] from rfl) (Reps.one (show Kd.M Kd.string _ _ _ (⟨#[108, 105, 115, 116]⟩ : ByteArray) [.string (⟨#[108, 105, 115, 116]⟩ : ByteArray)] from rfl) (Reps.one (show Kd.M Kd.string _ _ _ (⟨#[119, 97, 108, 107]⟩ : ByteArray) [.string (⟨#[119, 97, 108, 107]⟩ : ByteArray)] from rfl) (Reps.one (show Kd.M Kd.string _ _ _ (⟨#[104, 101, 97, 108, 116, 104]⟩ : ByteArray) [.string (⟨#[104, 101, 97, 108, 116, 104]⟩ : ByteArray)] from rfl) (Reps.one (show Kd.M Kd.string _ _ _ (⟨#[114, 101, 108, 111, 97, 100]⟩ : ByteArray) [.string (⟨#[114, 101, 108, 111, 97, 100]⟩ : ByteArray)] from rfl) (Reps.one (show Kd.M Kd.string _ _ _ (⟨#[115, 104, 117, 116, 100, 111, 119, 110]⟩ : ByteArray) [.string (⟨#[115, 104, 117, 116, 100, 111, 119, 110]⟩ : ByteArray)] from rfl) (Reps.none _ _)))))))))); intro v198 w51 ho52 hb hg_ hnew_; clear hg_ hnew_; (first | rw [← Ny197.out] at ho52 | (simp only [Int.reduceToNat] at ho52; rw [← Ny197.out] at ho52)); have n0_ := Aside0.mk (Kd.R_elder' (by (with_reducible repeat (first | apply Kd.R_alloc | apply Kd.R_drewN | apply Kd.R_drew)); exact HO196.out) (Kd.R_base ho52) hb); have n1_ := Aside0.mk (Kd.R_lower (Kd.R_new' ho52 (Kd.R_lt (by (with_reducible repeat (first | apply Kd.R_alloc | apply Kd.R_drewN | apply Kd.R_drew)); exact HO196.out))) (below_size (by repeat (first | (with_reducible first | exact HB.out | apply below_alloc | apply pw_below_drewN | apply below_drew1 | refine below_set ?_ GE192.out) | exact HB.out)))); have n2_ := Aside0.mk (blk_below (g := gb192) (o := .cells #[.string ((rd_T27 l0 x81_3).f0), .string ((rd_T27 l0 x81_3).f1), .string ((rd_T27 l0 x81_3).f2)] 27 (0, 0)) (by (with_reducible repeat (first | refine blk_drewN ?_ _ | refine blk_drew ?_ | refine blk_alloc ?_ _)); exact BK192.out) hb); have n3_ := Aside0.mk (below_step (by repeat (first | (with_reducible first | exact HB.out | apply below_alloc | apply pw_below_drewN | apply below_drew1 | refine below_set ?_ GE192.out) | exact HB.out)) hb); clear HO196; clear BK192; clear HB; have HO196 := n0_; have HO199 := n1_; have BK192 := n2_; have HB := n3_; clear n0_ n1_ n2_ n3_; clear hb ho52; obtain ⟨Ao53, co53, eo53⟩ := Kd.R_slice HO199.out; subst eo53)); try go_wp2_with (first | ((with_reducible refine gate_dst (N := 12) rfl ?_); refine box_event ?hg (N := 12) ?hd (cs := #[.string (⟨#[]⟩ : ByteArray), .string (⟨#[]⟩ : ByteArray), .string (⟨#[]⟩ : ByteArray)]) (t := 27) ?hr ?_; (case hd => rfl); (case hg => rfl); (case hr => first | (go_simp; done) | (go_simp; rfl)); intro gb192 hg w48 hbox hb; have n0_ := Aside0.mk (below_step (by repeat (first | (with_reducible first | exact HB.out | apply below_alloc | apply pw_below_drewN | apply below_drew1) | exact HB.out)) hb); have n1_ := Aside0.mk (hbox); have n2_ := Aside0.mk ((by rw [hg]; exact (below_size (by repeat (first | (with_reducible first | exact HB.out | apply below_alloc | apply pw_below_drewN | apply below_drew1) | exact HB.out))) : w.heap.size ≤ gb192)); have n3_ := Aside0.mk ((by rw [hg]; exact (below_size (by repeat (first | (with_reducible first | exact HB.out | apply below_alloc | apply pw_below_drewN | apply below_drew1) | exact HB.out))) : w.heap.size ≤ gb192)); clear HB; have HB := n0_; have BK192 := n1_; have GW192 := n2_; have GE192 := n3_; clear n0_ n1_ n2_ n3_; clear hb hbox hg; have hcz49_0 : w48.cell? ⟨gb192, 0, none⟩ = some (.string (⟨#[]⟩ : ByteArray)) := (blk_cell BK192.out 0).trans rfl; have hcz49_1 : w48.cell? ⟨gb192, 1, none⟩ = some (.string (⟨#[]⟩ : ByteArray)) := (blk_cell BK192.out 1).trans rfl; have hcz49_2 : w48.cell? ⟨gb192, 2, none⟩ = some (.string (⟨#[]⟩ : ByteArray)) := (blk_cell BK192.out 2).trans rfl; have hfz49_0 := blk_frozen BK192.out 0; have hfz49_1 := blk_frozen BK192.out 1; have hfz49_2 := blk_frozen BK192.out 2) | (go_at_call 11; (with_reducible refine (path_Pattern.calls k3 ((rd_T27 l0 x81_3).f1) t193 t194 _ A47.out).mono ?_); rintro e w50 ⟨v195, rfl, ho0, hb⟩; have n0_ := Aside0.mk (Kd.R_lower ho0 (below_size (by repeat (first | (with_reducible first | exact HB.out | apply below_alloc | apply pw_below_drewN | apply below_drew1 | refine below_set ?_ GE192.out) | exact HB.out)))); have n1_ := Aside0.mk (blk_below (g := gb192) (o := .cells #[.string ((rd_T27 l0 x81_3).f0), .string ((rd_T27 l0 x81_3).f1), .string ((rd_T27 l0 x81_3).f2)] 27 (0, 0)) (by (with_reducible repeat (first | refine blk_drewN ?_ _ | refine blk_drew ?_ | refine blk_alloc ?_ _)); refine blk_put (cs := #[.string ((rd_T27 l0 x81_3).f0), .string ((rd_T27 l0 x81_3).f1), .string (⟨#[]⟩ : ByteArray)]) ?_ 2 _ rfl; (with_reducible repeat (first | refine blk_drewN ?_ _ | refine blk_drew ?_ | refine blk_alloc ?_ _)); refine blk_put (cs := #[.string ((rd_T27 l0 x81_3).f0), .string (⟨#[]⟩ : ByteArray), .string (⟨#[]⟩ : ByteArray)]) ?_ 1 _ rfl; (with_reducible repeat (first | refine blk_drewN ?_ _ | refine blk_drew ?_ | refine blk_alloc ?_ _)); refine blk_put (cs := #[.string (⟨#[]⟩ : ByteArray), .string (⟨#[]⟩ : ByteArray), .string (⟨#[]⟩ : ByteArray)]) ?_ 0 _ rfl; (with_reducible repeat (first | refine blk_drewN ?_ _ | refine blk_drew ?_ | refine blk_alloc ?_ _)); exact BK192.out) hb); have n2_ := Aside0.mk (below_step (by repeat (first | (with_reducible first | exact HB.out | apply below_alloc | apply pw_below_drewN | apply below_drew1 | refine below_set ?_ GE192.out) | exact HB.out)) hb); clear BK192; clear HB; have HO196 := n0_; have BK192 := n1_; have HB := n2_; clear n0_ n1_ n2_; (try clear hb); (try clear hb2); (try clear hk); (try clear hi); (try clear ho0)) | ((with_reducible refine gate_dst (N := 91) rfl ?_); refine Kd.R_lit Kd.string _ 9 ?hg (N := 91) ?hd (xs := ([(⟨#[103, 101, 116]⟩ : ByteArray), (⟨#[112, 117, 116]⟩ : ByteArray), (⟨#[100, 101, 108, 101, 116, 101]⟩ : ByteArray), (⟨#[108, 105, 115, 116]⟩ : ByteArray), (⟨#[119, 97, 108, 107]⟩ : ByteArray), (⟨#[104, 101, 97, 108, 116, 104]⟩ : ByteArray), (⟨#[114, 101, 108, 111, 97, 100]⟩ : ByteArray), (⟨#[115, 104, 117, 116, 100, 111, 119, 110]⟩ : ByteArray)] : List ByteArray)) (inner := [.string (⟨#[103, 101, 116]⟩ : ByteArray), .string (⟨#[112, 117, 116]⟩ : ByteArray), .string (⟨#[100, 101, 108, 101, 116, 101]⟩ : ByteArray), .string (⟨#[108, 105, 115, 116]⟩ : ByteArray), .string (⟨#[119, 97, 108, 107]⟩ : ByteArray), .string (⟨#[104, 101, 97, 108, 116, 104]⟩ : ByteArray), .string (⟨#[114, 101, 108, 111, 97, 100]⟩ : ByteArray), .string (⟨#[115, 104, 117, 116, 100, 111, 119, 110]⟩ : ByteArray)]) (ok := fun _ => True) (okp := fun _ => True) ?hr ?hp (fun _ hk => hk) trivial (Below.refl _ _) (Nat.le_refl _) (by simp) ?_; (case hd => rfl); (case hg => rfl); (case hr => first | (go_simp; done) | (go_simp; rfl)); (case hp => exact (Reps.one (show Kd.M Kd.string _ _ _ (⟨#[103, 101, 116]⟩ : ByteArray) [.string (⟨#[103, 101, 116]⟩ : ByteArray)] from rfl) (Reps.one (show Kd.M Kd.string _ _ _ (⟨#[112, 117, 116]⟩ : ByteArray) [.string (⟨#[112, 117, 116]⟩ : ByteArray)] from rfl) (Reps.one (show Kd.M Kd.string _ _ _ (⟨#[100, 101, 108, 101, 116, 101]⟩ : ByteArray) [.string (⟨#[100, 101, 108, 101, 116, 101]⟩ : ByteArray)] from rfl) (Reps.one (show Kd.M Kd.string _ _ _ (⟨#[108, 105, 115, 116]⟩ : ByteArray) [.string (⟨#[108, 105, 115, 116]⟩ : ByteArray)] from rfl) (Reps.one (show Kd.M Kd.string _ _ _ (⟨#[119, 97, 108, 107]⟩ : ByteArray) [.string (⟨#[119, 97, 108, 107]⟩ : ByteArray)] from rfl) (Reps.one (show Kd.M Kd.string _ _ _ (⟨#[104, 101, 97, 108, 116, 104]⟩ : ByteArray) [.string (⟨#[104, 101, 97, 108, 116, 104]⟩ : ByteArray)] from rfl) (Reps.one (show Kd.M Kd.string _ _ _ (⟨#[114, 101, 108, 111, 97, 100]⟩ : ByteArray) [.string (⟨#[114, 101, 108, 111, 97, 100]⟩ : ByteArray)] from rfl) (Reps.one (show Kd.M Kd.string _ _ _ (⟨#[115, 104, 117, 116, 100, 111, 119, 110]⟩ : ByteArray) [.string (⟨#[115, 104, 117, 116, 100, 111, 119, 110]⟩ : ByteArray)] from rfl) (Reps.none _ _)))))))))); intro v198 w51 ho52 hb hg_ hnew_; clear hg_ hnew_; (first | rw [← Ny197.out] at ho52 | (simp only [Int.reduceToNat] at ho52; rw [← Ny197.out] at ho52)); have n0_ := Aside0.mk (Kd.R_elder' (by (with_reducible repeat (first | apply Kd.R_alloc | apply Kd.R_drewN | apply Kd.R_drew)); exact HO196.out) (Kd.R_base ho52) hb); have n1_ := Aside0.mk (Kd.R_lower (Kd.R_new' ho52 (Kd.R_lt (by (with_reducible repeat (first | apply Kd.R_alloc | apply Kd.R_drewN | apply Kd.R_drew)); exact HO196.out))) (below_size (by repeat (first | (with_reducible first | exact HB.out | apply below_alloc | apply pw_below_drewN | apply below_drew1 | refine below_set ?_ GE192.out) | exact HB.out)))); have n2_ := Aside0.mk (blk_below (g := gb192) (o := .cells #[.string ((rd_T27 l0 x81_3).f0), .string ((rd_T27 l0 x81_3).f1), .string ((rd_T27 l0 x81_3).f2)] 27 (0, 0)) (by (with_reducible repeat (first | refine blk_drewN ?_ _ | refine blk_drew ?_ | refine blk_alloc ?_ _)); exact BK192.out) hb); have n3_ := Aside0.mk (below_step (by repeat (first | (with_reducible first | exact HB.out | apply below_alloc | apply pw_below_drewN | apply below_drew1 | refine below_set ?_ GE192.out) | exact HB.out)) hb); clear HO196; clear BK192; clear HB; have HO196 := n0_; have HO199 := n1_; have BK192 := n2_; have HB := n3_; clear n0_ n1_ n2_ n3_; clear hb ho52; obtain ⟨Ao53, co53, eo53⟩ := Kd.R_slice HO199.out; subst eo53)))
                          go_loopg [15, 93] k3 (fun kq v15 v93 w' => ∃ (x15_4 : Bool) (x93_4 : Int), v15 = .bool x15_4 ∧ v93 = .int .i64 x93_4 ∧ Aside0 (crossroadlaw07_TableChecks.l3 kq l0 x3_3 t194 x15_4 l0 (l0.length : Int) x81_3 y197 (y197.length : Int) x93_4 ((rd_T27 l0 x81_3).f0) ((rd_T27 l0 x81_3).f1) ((rd_T27 l0 x81_3).f2) = some r) ∧ Aside0 (kq ≤ k3) ∧ Aside0 (Kd.R Kd.string 9 w' w.heap.size (fun _ => True) (.slice Ao53 y197.length co53) y197) ∧ Aside0 (w'.heap[gb192]? = some (.cells #[.string ((rd_T27 l0 x81_3).f0), .string ((rd_T27 l0 x81_3).f1), .string ((rd_T27 l0 x81_3).f2)] 27 (0, 0))) ∧ Aside0 (Below w.heap.size w w'))
                          case atStart => exact ⟨(false), (0), (by first | rfl | (simp; done) | (simp [*]; done)), (by first | rfl | (simp; done) | (simp [*]; done)), H', ⟨Nat.le_refl _⟩, ⟨by (with_reducible repeat (first | apply Kd.R_alloc | apply Kd.R_drewN | apply Kd.R_drew)); exact Kd.R_mono HO199.out (fun _ hk => trivial)⟩, ⟨by (with_reducible repeat (first | refine blk_drewN ?_ _ | refine blk_drew ?_ | refine blk_alloc ?_ _)); exact BK192.out⟩, ⟨by repeat (first | (with_reducible first | exact HB.out | apply below_alloc | apply pw_below_drewN | apply below_drew1 | refine below_set ?_ GE192.out) | exact HB.out)⟩⟩
                          case round =>
                            clear H'
                            try clear c1
                            try clear p1
                            try clear q1
                            try clear hx1
                            try clear c2
                            try clear p2
                            try clear c3
                            try clear c4
                            try clear c5
                            try clear p6
                            try clear c8
                            try clear c8b0
                            try clear c9
                            try clear c9b0
                            try clear c10
                            try clear c10b0
                            try clear c15
                            try clear c15b0
                            try clear c16
                            try clear c16b0
                            try clear c17
                            try clear c17b0
                            try clear p17
                            try clear q17
                            try clear hx17
                            try clear p18
                            try clear q18
                            try clear hx18
                            try clear c19
                            try clear p19
                            try clear q19
                            try clear hx19
                            try clear c20
                            try clear c21
                            try clear c21b0
                            try clear c21b1
                            try clear c24
                            try clear c24b0
                            try clear c24b1
                            try clear c25
                            try clear c25b0
                            try clear c25b1
                            try clear c43
                            try clear c43b0
                            try clear c43b1
                            try clear c44
                            try clear c44b0
                            try clear c45
                            try clear c45b0
                            try clear c46
                            try clear c46b0
                            try clear hcz13_0
                            try clear hcz13_1
                            try clear hcz13_2
                            try clear hcz27_0
                            try clear hcz27_1
                            try clear hcz27_2
                            try clear hcz31_0
                            try clear hcz31_1
                            try clear hcz31_2
                            try clear hcz35_0
                            try clear hcz35_1
                            try clear hcz35_2
                            try clear hcz39_0
                            try clear hcz39_1
                            try clear hcz39_2
                            try clear hcz49_0
                            try clear hcz49_1
                            try clear hcz49_2
                            try clear hfz13_0
                            try clear hfz13_1
                            try clear hfz13_2
                            try clear hfz27_0
                            try clear hfz27_1
                            try clear hfz27_2
                            try clear hfz31_0
                            try clear hfz31_1
                            try clear hfz31_2
                            try clear hfz35_0
                            try clear hfz35_1
                            try clear hfz35_2
                            try clear hfz39_0
                            try clear hfz39_1
                            try clear hfz39_2
                            try clear hfz49_0
                            try clear hfz49_1
                            try clear hfz49_2
                            try clear hx176_0
                            try clear hx176_1
                            try clear hx176_2
                            try clear hx182_0
                            try clear hx182_1
                            try clear hx182_2
                            try clear hx187_0
                            try clear hx187_1
                            try clear hx187_2
                            try clear hx191_0
                            try clear hx191_1
                            try clear hx191_2
                            try clear p1
                            try clear p17
                            try clear p176
                            try clear p18
                            try clear p182
                            try clear p187
                            try clear p191
                            try clear p2
                            try clear p6
                            try clear q1
                            try clear q17
                            try clear q176
                            try clear q18
                            try clear q182
                            try clear q187
                            try clear q191
                            obtain ⟨x15_4, x93_4, rfl, rfl, HA, HK4, HO_91, BK192, HB⟩ := hrel
                            cases gk with
                            | zero => exact absurd HA.out (by simp [crossroadlaw07_TableChecks.l3])
                            | succ k4 =>
                              have H := HA.out
                              clear HA
                              simp only [crossroadlaw07_TableChecks.l3] at H
                              by_cases c54 : x93_4 < (y197.length : Int)
                              · rw [if_pos c54] at H
                                have c54b0 : decide (x93_4 < (y197.length : Int)) = true := decide_eq_true c54
                                clear c54
                                by_cases c55 : 0 ≤ x93_4
                                · rw [if_pos c55] at H
                                  have c55b0 : decide (0 ≤ x93_4) = true := decide_eq_true c55
                                  clear c55
                                  by_cases c56 : x93_4 < (y197.length : Int)
                                  · rw [if_pos c56] at H
                                    have c56b0 : decide (x93_4 < (y197.length : Int)) = true := decide_eq_true c56
                                    clear c56
                                    by_cases c57 : x15_4 = true
                                    · subst c57
                                      have H1 : (crossroadlaw07_TableChecks.l3 k4 l0 x3_3 t194 true l0 (l0.length : Int) x81_3 y197 (y197.length : Int) (wrap64 (x93_4 + 1)) ((rd_T27 l0 x81_3).f0) ((rd_T27 l0 x81_3).f1) ((rd_T27 l0 x81_3).f2)) = some r := by rw [if_pos rfl] at H; exact H
                                      clear H
                                      have H := H1
                                      clear H1
                                      have H' := Aside0.mk H
                                      clear H
                                      have p200 : 0 ≤ (x93_4 : Int) := of_decide_eq_true (by first | (with_reducible assumption) | assumption)
                                      have q200 : x93_4 < (y197.length : Int) := of_decide_eq_true (by first | (with_reducible assumption) | assumption)
                                      obtain ⟨ad200, e200, hx200_0⟩ := Kd.at_string (Kd.R_reads' HO_91.out).2.2 x93_4 p200 q200
                                      cases e200
                                      replace p200 := eq_true p200
                                      replace q200 := eq_true q200
                                      go_wp2
                                      repeat (go_quiet (fail); try go_wp2)
                                      go_roundg k4
                                      case measure => have := HK1.out; have := HJ41.out; have := HK3.out; have := HK4.out; omega
                                      case rel => exact ⟨(true), (wrap64 (x93_4 + 1)), (by first | rfl | (simp; done) | (simp [*]; done)), (by first | rfl | (simp; done) | (simp [*]; done)), H', ⟨by have := HK1.out; have := HJ41.out; have := HK3.out; have := HK4.out; omega⟩, ⟨by (with_reducible repeat (first | apply Kd.R_alloc | apply Kd.R_drewN | apply Kd.R_drew)); exact HO_91.out⟩, ⟨by (with_reducible repeat (first | refine blk_drewN ?_ _ | refine blk_drew ?_ | refine blk_alloc ?_ _)); exact BK192.out⟩, ⟨by repeat (first | (with_reducible first | exact HB.out | apply below_alloc | apply pw_below_drewN | apply below_drew1 | refine below_set ?_ GE192.out) | exact HB.out)⟩⟩
                                    · replace c57 := Bool.eq_false_iff.mpr c57
                                      subst c57
                                      have H1 : (crossroadlaw07_TableChecks.l3 k4 l0 x3_3 t194 ((rdOf ByteArray.empty y197 x93_4).toList == ((rd_T27 l0 x81_3).f2).toList) l0 (l0.length : Int) x81_3 y197 (y197.length : Int) (wrap64 (x93_4 + 1)) ((rd_T27 l0 x81_3).f0) ((rd_T27 l0 x81_3).f1) ((rd_T27 l0 x81_3).f2)) = some r := by rw [if_neg (show ¬ (false = true) by decide)] at H; exact H
                                      clear H
                                      have H := H1
                                      clear H1
                                      have H' := Aside0.mk H
                                      clear H
                                      have p200 : 0 ≤ (x93_4 : Int) := of_decide_eq_true (by first | (with_reducible assumption) | assumption)
                                      have q200 : x93_4 < (y197.length : Int) := of_decide_eq_true (by first | (with_reducible assumption) | assumption)
                                      obtain ⟨ad200, e200, hx200_0⟩ := Kd.at_string (Kd.R_reads' HO_91.out).2.2 x93_4 p200 q200
                                      cases e200
                                      replace p200 := eq_true p200
                                      replace q200 := eq_true q200
                                      have hcz58_0 : wr.cell? ⟨gb192, 0, none⟩ = some (.string ((rd_T27 l0 x81_3).f0)) := (blk_cell BK192.out 0).trans rfl
                                      have hcz58_1 : wr.cell? ⟨gb192, 1, none⟩ = some (.string ((rd_T27 l0 x81_3).f1)) := (blk_cell BK192.out 1).trans rfl
                                      have hcz58_2 : wr.cell? ⟨gb192, 2, none⟩ = some (.string ((rd_T27 l0 x81_3).f2)) := (blk_cell BK192.out 2).trans rfl
                                      have hfz58_0 := blk_frozen BK192.out 0
                                      have hfz58_1 := blk_frozen BK192.out 1
                                      have hfz58_2 := blk_frozen BK192.out 2
                                      go_wp2
                                      repeat (go_quiet (fail); try go_wp2)
                                      go_roundg k4
                                      case measure => have := HK1.out; have := HJ41.out; have := HK3.out; have := HK4.out; omega
                                      case rel => exact ⟨(((rdOf ByteArray.empty y197 x93_4).toList == ((rd_T27 l0 x81_3).f2).toList)), (wrap64 (x93_4 + 1)), (by first | rfl | (simp; done) | (simp [*]; done)), (by first | rfl | (simp; done) | (simp [*]; done)), H', ⟨by have := HK1.out; have := HJ41.out; have := HK3.out; have := HK4.out; omega⟩, ⟨by (with_reducible repeat (first | apply Kd.R_alloc | apply Kd.R_drewN | apply Kd.R_drew)); exact HO_91.out⟩, ⟨by (with_reducible repeat (first | refine blk_drewN ?_ _ | refine blk_drew ?_ | refine blk_alloc ?_ _)); exact BK192.out⟩, ⟨by repeat (first | (with_reducible first | exact HB.out | apply below_alloc | apply pw_below_drewN | apply below_drew1 | refine below_set ?_ GE192.out) | exact HB.out)⟩⟩
                                  · rw [if_neg c56] at H
                                    exact absurd H (by simp)
                                · rw [if_neg c55] at H
                                  exact absurd H (by simp)
                              · rw [if_neg c54] at H
                                have c54b0 : decide (x93_4 < (y197.length : Int)) = false := decide_eq_false c54
                                clear c54
                                have HC59 := Aside0.mk H
                                clear H
                                go_upto_region 30 with (fail)
                                repeat (go_quiet (fail); go_upto_region 30 with (fail))
                                go_cut [123] (fun v123 wc => ∃ (kq : Nat) (x123_58 : Bool), v123 = .bool x123_58 ∧ Aside0 (crossroadlaw07_TableChecks.j5 kq l0 x3_3 l0 (l0.length : Int) x81_3 x123_58 ((rd_T27 l0 x81_3).f0) ((rd_T27 l0 x81_3).f1) ((rd_T27 l0 x81_3).f2) = some r) ∧ Aside0 (kq ≤ k4) ∧ Aside0 (wc.heap[gb192]? = some (.cells #[.string ((rd_T27 l0 x81_3).f0), .string ((rd_T27 l0 x81_3).f1), .string ((rd_T27 l0 x81_3).f2)] 27 (0, 0))) ∧ Aside0 (Below w.heap.size w wc))
                                case first =>
                                  have H := HC59.out
                                  clear HC59
                                  replace H := Option.bind_eq_some_iff.mp H
                                  obtain ⟨t201, A600, H⟩ := H
                                  replace H : (if (t201 != x15_4) = true then (crossroadlaw07_TableChecks.j5 k4 l0 x3_3 l0 (l0.length : Int) x81_3 true ((rd_T27 l0 x81_3).f0) ((rd_T27 l0 x81_3).f1) ((rd_T27 l0 x81_3).f2)) else ((table_Right.f k4 ((rd_T27 l0 x81_3).f0) ((rd_T27 l0 x81_3).f1) ((rd_T27 l0 x81_3).f2)).bind fun t202 => (if t194 = true then (if x15_4 = true then ((ascii_Token.f k4 ((rd_T27 l0 x81_3).f0)).bind fun t203 => (crossroadlaw07_TableChecks.j5 k4 l0 x3_3 l0 (l0.length : Int) x81_3 (t202 != t203) ((rd_T27 l0 x81_3).f0) ((rd_T27 l0 x81_3).f1) ((rd_T27 l0 x81_3).f2))) else (crossroadlaw07_TableChecks.j5 k4 l0 x3_3 l0 (l0.length : Int) x81_3 (t202 != false) ((rd_T27 l0 x81_3).f0) ((rd_T27 l0 x81_3).f1) ((rd_T27 l0 x81_3).f2))) else (crossroadlaw07_TableChecks.j5 k4 l0 x3_3 l0 (l0.length : Int) x81_3 (t202 != false) ((rd_T27 l0 x81_3).f0) ((rd_T27 l0 x81_3).f1) ((rd_T27 l0 x81_3).f2))))) = some r := H
                                  have A60 := Aside0.mk A600
                                  clear A600
                                  by_cases c61 : (t201 != x15_4) = true
                                  · rw [if_pos c61] at H
                                    have c61b0 : (t201 != x15_4) = true := c61
                                    (try (have c61b1 : decide (t201 = x15_4) = false := by simpa using c61))
                                    (try (have c61b2 : (t201 == x15_4) = false := by simpa using c61))
                                    (try (have c61b3 : ¬ (t201 = x15_4) := by simpa using c61))
                                    clear c61
                                    (first | rw [c61b0] | (simp only [i64_w, i32_w]; rw [c61b0]) | skip)
                                    have H' := Aside0.mk H
                                    clear H
                                    have hcz62_0 : wr.cell? ⟨gb192, 0, none⟩ = some (.string ((rd_T27 l0 x81_3).f0)) := (blk_cell BK192.out 0).trans rfl
                                    have hcz62_1 : wr.cell? ⟨gb192, 1, none⟩ = some (.string ((rd_T27 l0 x81_3).f1)) := (blk_cell BK192.out 1).trans rfl
                                    have hcz62_2 : wr.cell? ⟨gb192, 2, none⟩ = some (.string ((rd_T27 l0 x81_3).f2)) := (blk_cell BK192.out 2).trans rfl
                                    have hfz62_0 := blk_frozen BK192.out 0
                                    have hfz62_1 := blk_frozen BK192.out 1
                                    have hfz62_2 := blk_frozen BK192.out 2
                                    go_wp2_with (first | (go_at_call 13; (with_reducible refine (table_Handler.calls ((rd_T27 l0 x81_3).f2) t201 _ A60.out ?glob17).mono ?_); (case glob17 => exact GlobOK.below HG.out (by repeat (first | (with_reducible first | exact HB.out | apply below_alloc | apply pw_below_drewN | apply below_drew1 | refine below_set ?_ (Aside0.out (by assumption))) | exact HB.out)) rfl); rintro e w' ⟨rfl, ⟨nd, rfl⟩⟩; (try first | exact ⟨rfl, _, World.drewN_drewN _ _ _⟩ | exact ⟨rfl, _, Eq.trans (World.drewN_drewN _ _ _) (congrArg (World.drewN _) (Nat.add_assoc _ _ _))⟩)))
                                    repeat (go_quiet (first | (go_at_call 13; (with_reducible refine (table_Handler.calls ((rd_T27 l0 x81_3).f2) t201 _ A60.out ?glob18).mono ?_); (case glob18 => exact GlobOK.below HG.out (by repeat (first | (with_reducible first | exact HB.out | apply below_alloc | apply pw_below_drewN | apply below_drew1 | refine below_set ?_ (Aside0.out (by assumption))) | exact HB.out)) rfl); rintro e w' ⟨rfl, ⟨nd, rfl⟩⟩; (try first | exact ⟨rfl, _, World.drewN_drewN _ _ _⟩ | exact ⟨rfl, _, Eq.trans (World.drewN_drewN _ _ _) (congrArg (World.drewN _) (Nat.add_assoc _ _ _))⟩))); try go_wp2_with (first | (go_at_call 13; (with_reducible refine (table_Handler.calls ((rd_T27 l0 x81_3).f2) t201 _ A60.out ?glob19).mono ?_); (case glob19 => exact GlobOK.below HG.out (by repeat (first | (with_reducible first | exact HB.out | apply below_alloc | apply pw_below_drewN | apply below_drew1 | refine below_set ?_ (Aside0.out (by assumption))) | exact HB.out)) rfl); rintro e w' ⟨rfl, ⟨nd, rfl⟩⟩; (try first | exact ⟨rfl, _, World.drewN_drewN _ _ _⟩ | exact ⟨rfl, _, Eq.trans (World.drewN_drewN _ _ _) (congrArg (World.drewN _) (Nat.add_assoc _ _ _))⟩))))
                                    go_meet
                                    case rel => exact ⟨_, (true), (by first | rfl | (simp; done) | (simp [*]; done)), H', ⟨by have := HK1.out; have := HJ41.out; have := HK3.out; have := HK4.out; first | omega | exact Nat.le_refl _⟩, ⟨by (with_reducible repeat (first | refine blk_drewN ?_ _ | refine blk_drew ?_ | refine blk_alloc ?_ _)); exact BK192.out⟩, ⟨by repeat (first | (with_reducible first | exact HB.out | apply below_alloc | apply pw_below_drewN | apply below_drew1 | refine below_set ?_ GE192.out) | exact HB.out)⟩⟩
                                  · rw [if_neg c61] at H
                                    have c61b0 : (t201 != x15_4) = false := by simpa using c61
                                    (try (have c61b1 : decide (t201 = x15_4) = true := by simpa using c61))
                                    (try (have c61b2 : (t201 == x15_4) = true := by simpa using c61))
                                    clear c61
                                    (first | rw [c61b0] | (simp only [i64_w, i32_w]; rw [c61b0]) | skip)
                                    replace H := Option.bind_eq_some_iff.mp H
                                    obtain ⟨t202, A630, H⟩ := H
                                    replace H : (if t194 = true then (if x15_4 = true then ((ascii_Token.f k4 ((rd_T27 l0 x81_3).f0)).bind fun t203 => (crossroadlaw07_TableChecks.j5 k4 l0 x3_3 l0 (l0.length : Int) x81_3 (t202 != t203) ((rd_T27 l0 x81_3).f0) ((rd_T27 l0 x81_3).f1) ((rd_T27 l0 x81_3).f2))) else (crossroadlaw07_TableChecks.j5 k4 l0 x3_3 l0 (l0.length : Int) x81_3 (t202 != false) ((rd_T27 l0 x81_3).f0) ((rd_T27 l0 x81_3).f1) ((rd_T27 l0 x81_3).f2))) else (crossroadlaw07_TableChecks.j5 k4 l0 x3_3 l0 (l0.length : Int) x81_3 (t202 != false) ((rd_T27 l0 x81_3).f0) ((rd_T27 l0 x81_3).f1) ((rd_T27 l0 x81_3).f2))) = some r := H
                                    have A63 := Aside0.mk A630
                                    clear A630
                                    by_cases c64 : t194 = true
                                    · subst c64
                                      have H1 : (if x15_4 = true then ((ascii_Token.f k4 ((rd_T27 l0 x81_3).f0)).bind fun t203 => (crossroadlaw07_TableChecks.j5 k4 l0 x3_3 l0 (l0.length : Int) x81_3 (t202 != t203) ((rd_T27 l0 x81_3).f0) ((rd_T27 l0 x81_3).f1) ((rd_T27 l0 x81_3).f2))) else (crossroadlaw07_TableChecks.j5 k4 l0 x3_3 l0 (l0.length : Int) x81_3 (t202 != false) ((rd_T27 l0 x81_3).f0) ((rd_T27 l0 x81_3).f1) ((rd_T27 l0 x81_3).f2))) = some r := by rw [if_pos rfl] at H; exact H
                                      clear H
                                      have H := H1
                                      clear H1
                                      by_cases c65 : x15_4 = true
                                      · subst c65
                                        have H1 : ((ascii_Token.f k4 ((rd_T27 l0 x81_3).f0)).bind fun t203 => (crossroadlaw07_TableChecks.j5 k4 l0 x3_3 l0 (l0.length : Int) x81_3 (t202 != t203) ((rd_T27 l0 x81_3).f0) ((rd_T27 l0 x81_3).f1) ((rd_T27 l0 x81_3).f2))) = some r := by rw [if_pos rfl] at H; exact H
                                        clear H
                                        have H := H1
                                        clear H1
                                        replace H := Option.bind_eq_some_iff.mp H
                                        obtain ⟨t203, A660, H⟩ := H
                                        replace H : (crossroadlaw07_TableChecks.j5 k4 l0 x3_3 l0 (l0.length : Int) x81_3 (t202 != t203) ((rd_T27 l0 x81_3).f0) ((rd_T27 l0 x81_3).f1) ((rd_T27 l0 x81_3).f2)) = some r := H
                                        have A66 := Aside0.mk A660
                                        clear A660
                                        have H' := Aside0.mk H
                                        clear H
                                        have hcz67_0 : wr.cell? ⟨gb192, 0, none⟩ = some (.string ((rd_T27 l0 x81_3).f0)) := (blk_cell BK192.out 0).trans rfl
                                        have hcz67_1 : wr.cell? ⟨gb192, 1, none⟩ = some (.string ((rd_T27 l0 x81_3).f1)) := (blk_cell BK192.out 1).trans rfl
                                        have hcz67_2 : wr.cell? ⟨gb192, 2, none⟩ = some (.string ((rd_T27 l0 x81_3).f2)) := (blk_cell BK192.out 2).trans rfl
                                        have hfz67_0 := blk_frozen BK192.out 0
                                        have hfz67_1 := blk_frozen BK192.out 1
                                        have hfz67_2 := blk_frozen BK192.out 2
                                        go_wp2_with (first | (go_at_call 13; (with_reducible refine (table_Handler.calls ((rd_T27 l0 x81_3).f2) t201 _ A60.out ?glob20).mono ?_); (case glob20 => exact GlobOK.below HG.out (by repeat (first | (with_reducible first | exact HB.out | apply below_alloc | apply pw_below_drewN | apply below_drew1 | refine below_set ?_ (Aside0.out (by assumption))) | exact HB.out)) rfl); rintro e w' ⟨rfl, ⟨nd, rfl⟩⟩; (try first | exact ⟨rfl, _, World.drewN_drewN _ _ _⟩ | exact ⟨rfl, _, Eq.trans (World.drewN_drewN _ _ _) (congrArg (World.drewN _) (Nat.add_assoc _ _ _))⟩)) | (go_at_call 14; (with_reducible refine (table_Right.calls k4 ((rd_T27 l0 x81_3).f0) ((rd_T27 l0 x81_3).f1) ((rd_T27 l0 x81_3).f2) t202 _ A63.out ?glob21).mono ?_); (case glob21 => exact GlobOK.below HG.out (by repeat (first | (with_reducible first | exact HB.out | apply below_alloc | apply pw_below_drewN | apply below_drew1 | refine below_set ?_ (Aside0.out (by assumption))) | exact HB.out)) rfl); rintro e w68 ⟨rfl, hb⟩; have n0_ := Aside0.mk (Kd.R_below (by (with_reducible repeat (first | apply Kd.R_alloc | apply Kd.R_drewN | apply Kd.R_drew)); exact HO_91.out) hb); have n1_ := Aside0.mk (blk_below (g := gb192) (o := .cells #[.string ((rd_T27 l0 x81_3).f0), .string ((rd_T27 l0 x81_3).f1), .string ((rd_T27 l0 x81_3).f2)] 27 (0, 0)) (by (with_reducible repeat (first | refine blk_drewN ?_ _ | refine blk_drew ?_ | refine blk_alloc ?_ _)); exact BK192.out) hb); have n2_ := Aside0.mk (below_step (by repeat (first | (with_reducible first | exact HB.out | apply below_alloc | apply pw_below_drewN | apply below_drew1 | refine below_set ?_ GE192.out) | exact HB.out)) hb); clear HO_91; clear BK192; clear HB; have HO_91 := n0_; have BK192 := n1_; have HB := n2_; clear n0_ n1_ n2_; (try clear hb); (try clear hb2); (try clear hk); (try clear hi); have hcz69_0 : w68.cell? ⟨gb192, 0, none⟩ = some (.string ((rd_T27 l0 x81_3).f0)) := (blk_cell BK192.out 0).trans rfl; have hcz69_1 : w68.cell? ⟨gb192, 1, none⟩ = some (.string ((rd_T27 l0 x81_3).f1)) := (blk_cell BK192.out 1).trans rfl; have hcz69_2 : w68.cell? ⟨gb192, 2, none⟩ = some (.string ((rd_T27 l0 x81_3).f2)) := (blk_cell BK192.out 2).trans rfl; have hfz69_0 := blk_frozen BK192.out 0; have hfz69_1 := blk_frozen BK192.out 1; have hfz69_2 := blk_frozen BK192.out 2) | (go_at_call 15; (with_reducible refine (ascii_Token.calls k4 ((rd_T27 l0 x81_3).f0) t203 _ A66.out).mono ?_); rintro e w' ⟨rfl, ⟨nd, rfl⟩⟩; (try first | exact ⟨rfl, _, World.drewN_drewN _ _ _⟩ | exact ⟨rfl, _, Eq.trans (World.drewN_drewN _ _ _) (congrArg (World.drewN _) (Nat.add_assoc _ _ _))⟩)))
                                        repeat (go_quiet (first | (go_at_call 13; (with_reducible refine (table_Handler.calls ((rd_T27 l0 x81_3).f2) t201 _ A60.out ?glob22).mono ?_); (case glob22 => exact GlobOK.below HG.out (by repeat (first | (with_reducible first | exact HB.out | apply below_alloc | apply pw_below_drewN | apply below_drew1 | refine below_set ?_ (Aside0.out (by assumption))) | exact HB.out)) rfl); rintro e w' ⟨rfl, ⟨nd, rfl⟩⟩; (try first | exact ⟨rfl, _, World.drewN_drewN _ _ _⟩ | exact ⟨rfl, _, Eq.trans (World.drewN_drewN _ _ _) (congrArg (World.drewN _) (Nat.add_assoc _ _ _))⟩)) | (go_at_call 14; (with_reducible refine (table_Right.calls k4 ((rd_T27 l0 x81_3).f0) ((rd_T27 l0 x81_3).f1) ((rd_T27 l0 x81_3).f2) t202 _ A63.out ?glob23).mono ?_); (case glob23 => exact GlobOK.below HG.out (by repeat (first | (with_reducible first | exact HB.out | apply below_alloc | apply pw_below_drewN | apply below_drew1 | refine below_set ?_ (Aside0.out (by assumption))) | exact HB.out)) rfl); rintro e w68 ⟨rfl, hb⟩; have n0_ := Aside0.mk (Kd.R_below (by (with_reducible repeat (first | apply Kd.R_alloc | apply Kd.R_drewN | apply Kd.R_drew)); exact HO_91.out) hb); have n1_ := Aside0.mk (blk_below (g := gb192) (o := .cells #[.string ((rd_T27 l0 x81_3).f0), .string ((rd_T27 l0 x81_3).f1), .string ((rd_T27 l0 x81_3).f2)] 27 (0, 0)) (by (with_reducible repeat (first | refine blk_drewN ?_ _ | refine blk_drew ?_ | refine blk_alloc ?_ _)); exact BK192.out) hb); have n2_ := Aside0.mk (below_step (by repeat (first | (with_reducible first | exact HB.out | apply below_alloc | apply pw_below_drewN | apply below_drew1 | refine below_set ?_ GE192.out) | exact HB.out)) hb); clear HO_91; clear BK192; clear HB; have HO_91 := n0_; have BK192 := n1_; have HB := n2_; clear n0_ n1_ n2_; (try clear hb); (try clear hb2); (try clear hk); (try clear hi); have hcz69_0 : w68.cell? ⟨gb192, 0, none⟩ = some (.string ((rd_T27 l0 x81_3).f0)) := (blk_cell BK192.out 0).trans rfl; have hcz69_1 : w68.cell? ⟨gb192, 1, none⟩ = some (.string ((rd_T27 l0 x81_3).f1)) := (blk_cell BK192.out 1).trans rfl; have hcz69_2 : w68.cell? ⟨gb192, 2, none⟩ = some (.string ((rd_T27 l0 x81_3).f2)) := (blk_cell BK192.out 2).trans rfl; have hfz69_0 := blk_frozen BK192.out 0; have hfz69_1 := blk_frozen BK192.out 1; have hfz69_2 := blk_frozen BK192.out 2) | (go_at_call 15; (with_reducible refine (ascii_Token.calls k4 ((rd_T27 l0 x81_3).f0) t203 _ A66.out).mono ?_); rintro e w' ⟨rfl, ⟨nd, rfl⟩⟩; (try first | exact ⟨rfl, _, World.drewN_drewN _ _ _⟩ | exact ⟨rfl, _, Eq.trans (World.drewN_drewN _ _ _) (congrArg (World.drewN _) (Nat.add_assoc _ _ _))⟩))); try go_wp2_with (first | (go_at_call 13; (with_reducible refine (table_Handler.calls ((rd_T27 l0 x81_3).f2) t201 _ A60.out ?glob24).mono ?_); (case glob24 => exact GlobOK.below HG.out (by repeat (first | (with_reducible first | exact HB.out | apply below_alloc | apply pw_below_drewN | apply below_drew1 | refine below_set ?_ (Aside0.out (by assumption))) | exact HB.out)) rfl); rintro e w' ⟨rfl, ⟨nd, rfl⟩⟩; (try first | exact ⟨rfl, _, World.drewN_drewN _ _ _⟩ | exact ⟨rfl, _, Eq.trans (World.drewN_drewN _ _ _) (congrArg (World.drewN _) (Nat.add_assoc _ _ _))⟩)) | (go_at_call 14; (with_reducible refine (table_Right.calls k4 ((rd_T27 l0 x81_3).f0) ((rd_T27 l0 x81_3).f1) ((rd_T27 l0 x81_3).f2) t202 _ A63.out ?glob25).mono ?_); (case glob25 => exact GlobOK.below HG.out (by repeat (first | (with_reducible first | exact HB.out | apply below_alloc | apply pw_below_drewN | apply below_drew1 | refine below_set ?_ (Aside0.out (by assumption))) | exact HB.out)) rfl); rintro e w68 ⟨rfl, hb⟩; have n0_ := Aside0.mk (Kd.R_below (by (with_reducible repeat (first | apply Kd.R_alloc | apply Kd.R_drewN | apply Kd.R_drew)); exact HO_91.out) hb); have n1_ := Aside0.mk (blk_below (g := gb192) (o := .cells #[.string ((rd_T27 l0 x81_3).f0), .string ((rd_T27 l0 x81_3).f1), .string ((rd_T27 l0 x81_3).f2)] 27 (0, 0)) (by (with_reducible repeat (first | refine blk_drewN ?_ _ | refine blk_drew ?_ | refine blk_alloc ?_ _)); exact BK192.out) hb); have n2_ := Aside0.mk (below_step (by repeat (first | (with_reducible first | exact HB.out | apply below_alloc | apply pw_below_drewN | apply below_drew1 | refine below_set ?_ GE192.out) | exact HB.out)) hb); clear HO_91; clear BK192; clear HB; have HO_91 := n0_; have BK192 := n1_; have HB := n2_; clear n0_ n1_ n2_; (try clear hb); (try clear hb2); (try clear hk); (try clear hi); have hcz69_0 : w68.cell? ⟨gb192, 0, none⟩ = some (.string ((rd_T27 l0 x81_3).f0)) := (blk_cell BK192.out 0).trans rfl; have hcz69_1 : w68.cell? ⟨gb192, 1, none⟩ = some (.string ((rd_T27 l0 x81_3).f1)) := (blk_cell BK192.out 1).trans rfl; have hcz69_2 : w68.cell? ⟨gb192, 2, none⟩ = some (.string ((rd_T27 l0 x81_3).f2)) := (blk_cell BK192.out 2).trans rfl; have hfz69_0 := blk_frozen BK192.out 0; have hfz69_1 := blk_frozen BK192.out 1; have hfz69_2 := blk_frozen BK192.out 2) | (go_at_call 15; (with_reducible refine (ascii_Token.calls k4 ((rd_T27 l0 x81_3).f0) t203 _ A66.out).mono ?_); rintro e w' ⟨rfl, ⟨nd, rfl⟩⟩; (try first | exact ⟨rfl, _, World.drewN_drewN _ _ _⟩ | exact ⟨rfl, _, Eq.trans (World.drewN_drewN _ _ _) (congrArg (World.drewN _) (Nat.add_assoc _ _ _))⟩))))
                                        go_meet
                                        case rel => exact ⟨_, ((t202 != t203)), (by first | rfl | (simp; done) | (simp [*]; done)), H', ⟨by have := HK1.out; have := HJ41.out; have := HK3.out; have := HK4.out; first | omega | exact Nat.le_refl _⟩, ⟨by (with_reducible repeat (first | refine blk_drewN ?_ _ | refine blk_drew ?_ | refine blk_alloc ?_ _)); exact BK192.out⟩, ⟨by repeat (first | (with_reducible first | exact HB.out | apply below_alloc | apply pw_below_drewN | apply below_drew1 | refine below_set ?_ GE192.out) | exact HB.out)⟩⟩
                                      · replace c65 := Bool.eq_false_iff.mpr c65
                                        subst c65
                                        have H1 : (crossroadlaw07_TableChecks.j5 k4 l0 x3_3 l0 (l0.length : Int) x81_3 (t202 != false) ((rd_T27 l0 x81_3).f0) ((rd_T27 l0 x81_3).f1) ((rd_T27 l0 x81_3).f2)) = some r := by rw [if_neg (show ¬ (false = true) by decide)] at H; exact H
                                        clear H
                                        have H := H1
                                        clear H1
                                        have H' := Aside0.mk H
                                        clear H
                                        have hcz70_0 : wr.cell? ⟨gb192, 0, none⟩ = some (.string ((rd_T27 l0 x81_3).f0)) := (blk_cell BK192.out 0).trans rfl
                                        have hcz70_1 : wr.cell? ⟨gb192, 1, none⟩ = some (.string ((rd_T27 l0 x81_3).f1)) := (blk_cell BK192.out 1).trans rfl
                                        have hcz70_2 : wr.cell? ⟨gb192, 2, none⟩ = some (.string ((rd_T27 l0 x81_3).f2)) := (blk_cell BK192.out 2).trans rfl
                                        have hfz70_0 := blk_frozen BK192.out 0
                                        have hfz70_1 := blk_frozen BK192.out 1
                                        have hfz70_2 := blk_frozen BK192.out 2
                                        go_wp2_with (first | (go_at_call 13; (with_reducible refine (table_Handler.calls ((rd_T27 l0 x81_3).f2) t201 _ A60.out ?glob26).mono ?_); (case glob26 => exact GlobOK.below HG.out (by repeat (first | (with_reducible first | exact HB.out | apply below_alloc | apply pw_below_drewN | apply below_drew1 | refine below_set ?_ (Aside0.out (by assumption))) | exact HB.out)) rfl); rintro e w' ⟨rfl, ⟨nd, rfl⟩⟩; (try first | exact ⟨rfl, _, World.drewN_drewN _ _ _⟩ | exact ⟨rfl, _, Eq.trans (World.drewN_drewN _ _ _) (congrArg (World.drewN _) (Nat.add_assoc _ _ _))⟩)) | (go_at_call 14; (with_reducible refine (table_Right.calls k4 ((rd_T27 l0 x81_3).f0) ((rd_T27 l0 x81_3).f1) ((rd_T27 l0 x81_3).f2) t202 _ A63.out ?glob27).mono ?_); (case glob27 => exact GlobOK.below HG.out (by repeat (first | (with_reducible first | exact HB.out | apply below_alloc | apply pw_below_drewN | apply below_drew1 | refine below_set ?_ (Aside0.out (by assumption))) | exact HB.out)) rfl); rintro e w71 ⟨rfl, hb⟩; have n0_ := Aside0.mk (Kd.R_below (by (with_reducible repeat (first | apply Kd.R_alloc | apply Kd.R_drewN | apply Kd.R_drew)); exact HO_91.out) hb); have n1_ := Aside0.mk (blk_below (g := gb192) (o := .cells #[.string ((rd_T27 l0 x81_3).f0), .string ((rd_T27 l0 x81_3).f1), .string ((rd_T27 l0 x81_3).f2)] 27 (0, 0)) (by (with_reducible repeat (first | refine blk_drewN ?_ _ | refine blk_drew ?_ | refine blk_alloc ?_ _)); exact BK192.out) hb); have n2_ := Aside0.mk (below_step (by repeat (first | (with_reducible first | exact HB.out | apply below_alloc | apply pw_below_drewN | apply below_drew1 | refine below_set ?_ GE192.out) | exact HB.out)) hb); clear HO_91; clear BK192; clear HB; have HO_91 := n0_; have BK192 := n1_; have HB := n2_; clear n0_ n1_ n2_; (try clear hb); (try clear hb2); (try clear hk); (try clear hi)))
                                        repeat (go_quiet (first | (go_at_call 13; (with_reducible refine (table_Handler.calls ((rd_T27 l0 x81_3).f2) t201 _ A60.out ?glob28).mono ?_); (case glob28 => exact GlobOK.below HG.out (by repeat (first | (with_reducible first | exact HB.out | apply below_alloc | apply pw_below_drewN | apply below_drew1 | refine below_set ?_ (Aside0.out (by assumption))) | exact HB.out)) rfl); rintro e w' ⟨rfl, ⟨nd, rfl⟩⟩; (try first | exact ⟨rfl, _, World.drewN_drewN _ _ _⟩ | exact ⟨rfl, _, Eq.trans (World.drewN_drewN _ _ _) (congrArg (World.drewN _) (Nat.add_assoc _ _ _))⟩)) | (go_at_call 14; (with_reducible refine (table_Right.calls k4 ((rd_T27 l0 x81_3).f0) ((rd_T27 l0 x81_3).f1) ((rd_T27 l0 x81_3).f2) t202 _ A63.out ?glob29).mono ?_); (case glob29 => exact GlobOK.below HG.out (by repeat (first | (with_reducible first | exact HB.out | apply below_alloc | apply pw_below_drewN | apply below_drew1 | refine below_set ?_ (Aside0.out (by assumption))) | exact HB.out)) rfl); rintro e w71 ⟨rfl, hb⟩; have n0_ := Aside0.mk (Kd.R_below (by (with_reducible repeat (first | apply Kd.R_alloc | apply Kd.R_drewN | apply Kd.R_drew)); exact HO_91.out) hb); have n1_ := Aside0.mk (blk_below (g := gb192) (o := .cells #[.string ((rd_T27 l0 x81_3).f0), .string ((rd_T27 l0 x81_3).f1), .string ((rd_T27 l0 x81_3).f2)] 27 (0, 0)) (by (with_reducible repeat (first | refine blk_drewN ?_ _ | refine blk_drew ?_ | refine blk_alloc ?_ _)); exact BK192.out) hb); have n2_ := Aside0.mk (below_step (by repeat (first | (with_reducible first | exact HB.out | apply below_alloc | apply pw_below_drewN | apply below_drew1 | refine below_set ?_ GE192.out) | exact HB.out)) hb); clear HO_91; clear BK192; clear HB; have HO_91 := n0_; have BK192 := n1_; have HB := n2_; clear n0_ n1_ n2_; (try clear hb); (try clear hb2); (try clear hk); (try clear hi))); try go_wp2_with (first | (go_at_call 13; (with_reducible refine (table_Handler.calls ((rd_T27 l0 x81_3).f2) t201 _ A60.out ?glob30).mono ?_); (case glob30 => exact GlobOK.below HG.out (by repeat (first | (with_reducible first | exact HB.out | apply below_alloc | apply pw_below_drewN | apply below_drew1 | refine below_set ?_ (Aside0.out (by assumption))) | exact HB.out)) rfl); rintro e w' ⟨rfl, ⟨nd, rfl⟩⟩; (try first | exact ⟨rfl, _, World.drewN_drewN _ _ _⟩ | exact ⟨rfl, _, Eq.trans (World.drewN_drewN _ _ _) (congrArg (World.drewN _) (Nat.add_assoc _ _ _))⟩)) | (go_at_call 14; (with_reducible refine (table_Right.calls k4 ((rd_T27 l0 x81_3).f0) ((rd_T27 l0 x81_3).f1) ((rd_T27 l0 x81_3).f2) t202 _ A63.out ?glob31).mono ?_); (case glob31 => exact GlobOK.below HG.out (by repeat (first | (with_reducible first | exact HB.out | apply below_alloc | apply pw_below_drewN | apply below_drew1 | refine below_set ?_ (Aside0.out (by assumption))) | exact HB.out)) rfl); rintro e w71 ⟨rfl, hb⟩; have n0_ := Aside0.mk (Kd.R_below (by (with_reducible repeat (first | apply Kd.R_alloc | apply Kd.R_drewN | apply Kd.R_drew)); exact HO_91.out) hb); have n1_ := Aside0.mk (blk_below (g := gb192) (o := .cells #[.string ((rd_T27 l0 x81_3).f0), .string ((rd_T27 l0 x81_3).f1), .string ((rd_T27 l0 x81_3).f2)] 27 (0, 0)) (by (with_reducible repeat (first | refine blk_drewN ?_ _ | refine blk_drew ?_ | refine blk_alloc ?_ _)); exact BK192.out) hb); have n2_ := Aside0.mk (below_step (by repeat (first | (with_reducible first | exact HB.out | apply below_alloc | apply pw_below_drewN | apply below_drew1 | refine below_set ?_ GE192.out) | exact HB.out)) hb); clear HO_91; clear BK192; clear HB; have HO_91 := n0_; have BK192 := n1_; have HB := n2_; clear n0_ n1_ n2_; (try clear hb); (try clear hb2); (try clear hk); (try clear hi))))
                                        go_meet
                                        case rel => exact ⟨_, ((t202 != false)), (by first | rfl | (simp; done) | (simp [*]; done)), H', ⟨by have := HK1.out; have := HJ41.out; have := HK3.out; have := HK4.out; first | omega | exact Nat.le_refl _⟩, ⟨by (with_reducible repeat (first | refine blk_drewN ?_ _ | refine blk_drew ?_ | refine blk_alloc ?_ _)); exact BK192.out⟩, ⟨by repeat (first | (with_reducible first | exact HB.out | apply below_alloc | apply pw_below_drewN | apply below_drew1 | refine below_set ?_ GE192.out) | exact HB.out)⟩⟩
                                    · replace c64 := Bool.eq_false_iff.mpr c64
                                      subst c64
                                      have H1 : (crossroadlaw07_TableChecks.j5 k4 l0 x3_3 l0 (l0.length : Int) x81_3 (t202 != false) ((rd_T27 l0 x81_3).f0) ((rd_T27 l0 x81_3).f1) ((rd_T27 l0 x81_3).f2)) = some r := by rw [if_neg (show ¬ (false = true) by decide)] at H; exact H
                                      clear H
                                      have H := H1
                                      clear H1
                                      have H' := Aside0.mk H
                                      clear H
                                      have hcz72_0 : wr.cell? ⟨gb192, 0, none⟩ = some (.string ((rd_T27 l0 x81_3).f0)) := (blk_cell BK192.out 0).trans rfl
                                      have hcz72_1 : wr.cell? ⟨gb192, 1, none⟩ = some (.string ((rd_T27 l0 x81_3).f1)) := (blk_cell BK192.out 1).trans rfl
                                      have hcz72_2 : wr.cell? ⟨gb192, 2, none⟩ = some (.string ((rd_T27 l0 x81_3).f2)) := (blk_cell BK192.out 2).trans rfl
                                      have hfz72_0 := blk_frozen BK192.out 0
                                      have hfz72_1 := blk_frozen BK192.out 1
                                      have hfz72_2 := blk_frozen BK192.out 2
                                      go_wp2_with (first | (go_at_call 13; (with_reducible refine (table_Handler.calls ((rd_T27 l0 x81_3).f2) t201 _ A60.out ?glob32).mono ?_); (case glob32 => exact GlobOK.below HG.out (by repeat (first | (with_reducible first | exact HB.out | apply below_alloc | apply pw_below_drewN | apply below_drew1 | refine below_set ?_ (Aside0.out (by assumption))) | exact HB.out)) rfl); rintro e w' ⟨rfl, ⟨nd, rfl⟩⟩; (try first | exact ⟨rfl, _, World.drewN_drewN _ _ _⟩ | exact ⟨rfl, _, Eq.trans (World.drewN_drewN _ _ _) (congrArg (World.drewN _) (Nat.add_assoc _ _ _))⟩)) | (go_at_call 14; (with_reducible refine (table_Right.calls k4 ((rd_T27 l0 x81_3).f0) ((rd_T27 l0 x81_3).f1) ((rd_T27 l0 x81_3).f2) t202 _ A63.out ?glob33).mono ?_); (case glob33 => exact GlobOK.below HG.out (by repeat (first | (with_reducible first | exact HB.out | apply below_alloc | apply pw_below_drewN | apply below_drew1 | refine below_set ?_ (Aside0.out (by assumption))) | exact HB.out)) rfl); rintro e w73 ⟨rfl, hb⟩; have n0_ := Aside0.mk (Kd.R_below (by (with_reducible repeat (first | apply Kd.R_alloc | apply Kd.R_drewN | apply Kd.R_drew)); exact HO_91.out) hb); have n1_ := Aside0.mk (blk_below (g := gb192) (o := .cells #[.string ((rd_T27 l0 x81_3).f0), .string ((rd_T27 l0 x81_3).f1), .string ((rd_T27 l0 x81_3).f2)] 27 (0, 0)) (by (with_reducible repeat (first | refine blk_drewN ?_ _ | refine blk_drew ?_ | refine blk_alloc ?_ _)); exact BK192.out) hb); have n2_ := Aside0.mk (below_step (by repeat (first | (with_reducible first | exact HB.out | apply below_alloc | apply pw_below_drewN | apply below_drew1 | refine below_set ?_ GE192.out) | exact HB.out)) hb); clear HO_91; clear BK192; clear HB; have HO_91 := n0_; have BK192 := n1_; have HB := n2_; clear n0_ n1_ n2_; (try clear hb); (try clear hb2); (try clear hk); (try clear hi)))
                                      repeat (go_quiet (first | (go_at_call 13; (with_reducible refine (table_Handler.calls ((rd_T27 l0 x81_3).f2) t201 _ A60.out ?glob34).mono ?_); (case glob34 => exact GlobOK.below HG.out (by repeat (first | (with_reducible first | exact HB.out | apply below_alloc | apply pw_below_drewN | apply below_drew1 | refine below_set ?_ (Aside0.out (by assumption))) | exact HB.out)) rfl); rintro e w' ⟨rfl, ⟨nd, rfl⟩⟩; (try first | exact ⟨rfl, _, World.drewN_drewN _ _ _⟩ | exact ⟨rfl, _, Eq.trans (World.drewN_drewN _ _ _) (congrArg (World.drewN _) (Nat.add_assoc _ _ _))⟩)) | (go_at_call 14; (with_reducible refine (table_Right.calls k4 ((rd_T27 l0 x81_3).f0) ((rd_T27 l0 x81_3).f1) ((rd_T27 l0 x81_3).f2) t202 _ A63.out ?glob35).mono ?_); (case glob35 => exact GlobOK.below HG.out (by repeat (first | (with_reducible first | exact HB.out | apply below_alloc | apply pw_below_drewN | apply below_drew1 | refine below_set ?_ (Aside0.out (by assumption))) | exact HB.out)) rfl); rintro e w73 ⟨rfl, hb⟩; have n0_ := Aside0.mk (Kd.R_below (by (with_reducible repeat (first | apply Kd.R_alloc | apply Kd.R_drewN | apply Kd.R_drew)); exact HO_91.out) hb); have n1_ := Aside0.mk (blk_below (g := gb192) (o := .cells #[.string ((rd_T27 l0 x81_3).f0), .string ((rd_T27 l0 x81_3).f1), .string ((rd_T27 l0 x81_3).f2)] 27 (0, 0)) (by (with_reducible repeat (first | refine blk_drewN ?_ _ | refine blk_drew ?_ | refine blk_alloc ?_ _)); exact BK192.out) hb); have n2_ := Aside0.mk (below_step (by repeat (first | (with_reducible first | exact HB.out | apply below_alloc | apply pw_below_drewN | apply below_drew1 | refine below_set ?_ GE192.out) | exact HB.out)) hb); clear HO_91; clear BK192; clear HB; have HO_91 := n0_; have BK192 := n1_; have HB := n2_; clear n0_ n1_ n2_; (try clear hb); (try clear hb2); (try clear hk); (try clear hi))); try go_wp2_with (first | (go_at_call 13; (with_reducible refine (table_Handler.calls ((rd_T27 l0 x81_3).f2) t201 _ A60.out ?glob36).mono ?_); (case glob36 => exact GlobOK.below HG.out (by repeat (first | (with_reducible first | exact HB.out | apply below_alloc | apply pw_below_drewN | apply below_drew1 | refine below_set ?_ (Aside0.out (by assumption))) | exact HB.out)) rfl); rintro e w' ⟨rfl, ⟨nd, rfl⟩⟩; (try first | exact ⟨rfl, _, World.drewN_drewN _ _ _⟩ | exact ⟨rfl, _, Eq.trans (World.drewN_drewN _ _ _) (congrArg (World.drewN _) (Nat.add_assoc _ _ _))⟩)) | (go_at_call 14; (with_reducible refine (table_Right.calls k4 ((rd_T27 l0 x81_3).f0) ((rd_T27 l0 x81_3).f1) ((rd_T27 l0 x81_3).f2) t202 _ A63.out ?glob37).mono ?_); (case glob37 => exact GlobOK.below HG.out (by repeat (first | (with_reducible first | exact HB.out | apply below_alloc | apply pw_below_drewN | apply below_drew1 | refine below_set ?_ (Aside0.out (by assumption))) | exact HB.out)) rfl); rintro e w73 ⟨rfl, hb⟩; have n0_ := Aside0.mk (Kd.R_below (by (with_reducible repeat (first | apply Kd.R_alloc | apply Kd.R_drewN | apply Kd.R_drew)); exact HO_91.out) hb); have n1_ := Aside0.mk (blk_below (g := gb192) (o := .cells #[.string ((rd_T27 l0 x81_3).f0), .string ((rd_T27 l0 x81_3).f1), .string ((rd_T27 l0 x81_3).f2)] 27 (0, 0)) (by (with_reducible repeat (first | refine blk_drewN ?_ _ | refine blk_drew ?_ | refine blk_alloc ?_ _)); exact BK192.out) hb); have n2_ := Aside0.mk (below_step (by repeat (first | (with_reducible first | exact HB.out | apply below_alloc | apply pw_below_drewN | apply below_drew1 | refine below_set ?_ GE192.out) | exact HB.out)) hb); clear HO_91; clear BK192; clear HB; have HO_91 := n0_; have BK192 := n1_; have HB := n2_; clear n0_ n1_ n2_; (try clear hb); (try clear hb2); (try clear hk); (try clear hi))))
                                      go_meet
                                      case rel => exact ⟨_, ((t202 != false)), (by first | rfl | (simp; done) | (simp [*]; done)), H', ⟨by have := HK1.out; have := HJ41.out; have := HK3.out; have := HK4.out; first | omega | exact Nat.le_refl _⟩, ⟨by (with_reducible repeat (first | refine blk_drewN ?_ _ | refine blk_drew ?_ | refine blk_alloc ?_ _)); exact BK192.out⟩, ⟨by repeat (first | (with_reducible first | exact HB.out | apply below_alloc | apply pw_below_drewN | apply below_drew1 | refine below_set ?_ GE192.out) | exact HB.out)⟩⟩
                                case rest =>
                                  clear HC59
                                  try clear c1
                                  try clear p1
                                  try clear q1
                                  try clear hx1
                                  try clear c2
                                  try clear p2
                                  try clear q2
                                  try clear hx2
                                  try clear c3
                                  try clear c4
                                  try clear c5
                                  try clear c6
                                  try clear p6
                                  try clear c8
                                  try clear c8b0
                                  try clear c9
                                  try clear c9b0
                                  try clear c10
                                  try clear c10b0
                                  try clear c15
                                  try clear c15b0
                                  try clear c16
                                  try clear c16b0
                                  try clear c17
                                  try clear c17b0
                                  try clear p17
                                  try clear q17
                                  try clear hx17
                                  try clear p18
                                  try clear q18
                                  try clear hx18
                                  try clear c19
                                  try clear p19
                                  try clear q19
                                  try clear hx19
                                  try clear c20
                                  try clear p20
                                  try clear q20
                                  try clear hx20
                                  try clear c21
                                  try clear c21b0
                                  try clear c21b1
                                  try clear c24
                                  try clear c24b0
                                  try clear c24b1
                                  try clear c25
                                  try clear c25b0
                                  try clear c25b1
                                  try clear c43
                                  try clear c43b0
                                  try clear c43b1
                                  try clear c44
                                  try clear c44b0
                                  try clear c45
                                  try clear c45b0
                                  try clear c46
                                  try clear c46b0
                                  try clear c54
                                  try clear c54b0
                                  try clear c55
                                  try clear c55b0
                                  try clear c56
                                  try clear c56b0
                                  try clear c57
                                  try clear c61
                                  try clear c61b0
                                  try clear c61b1
                                  try clear c61b2
                                  try clear c64
                                  try clear p64
                                  try clear c65
                                  try clear hcz13_0
                                  try clear hcz13_1
                                  try clear hcz13_2
                                  try clear hcz27_0
                                  try clear hcz27_1
                                  try clear hcz27_2
                                  try clear hcz31_0
                                  try clear hcz31_1
                                  try clear hcz31_2
                                  try clear hcz35_0
                                  try clear hcz35_1
                                  try clear hcz35_2
                                  try clear hcz39_0
                                  try clear hcz39_1
                                  try clear hcz39_2
                                  try clear hcz49_0
                                  try clear hcz49_1
                                  try clear hcz49_2
                                  try clear hcz58_0
                                  try clear hcz58_1
                                  try clear hcz58_2
                                  try clear hcz62_0
                                  try clear hcz62_1
                                  try clear hcz62_2
                                  try clear hcz67_0
                                  try clear hcz67_1
                                  try clear hcz67_2
                                  try clear hcz69_0
                                  try clear hcz69_1
                                  try clear hcz69_2
                                  try clear hcz70_0
                                  try clear hcz70_1
                                  try clear hcz70_2
                                  try clear hcz72_0
                                  try clear hcz72_1
                                  try clear hcz72_2
                                  try clear hfz13_0
                                  try clear hfz13_1
                                  try clear hfz13_2
                                  try clear hfz27_0
                                  try clear hfz27_1
                                  try clear hfz27_2
                                  try clear hfz31_0
                                  try clear hfz31_1
                                  try clear hfz31_2
                                  try clear hfz35_0
                                  try clear hfz35_1
                                  try clear hfz35_2
                                  try clear hfz39_0
                                  try clear hfz39_1
                                  try clear hfz39_2
                                  try clear hfz49_0
                                  try clear hfz49_1
                                  try clear hfz49_2
                                  try clear hfz58_0
                                  try clear hfz58_1
                                  try clear hfz58_2
                                  try clear hfz62_0
                                  try clear hfz62_1
                                  try clear hfz62_2
                                  try clear hfz67_0
                                  try clear hfz67_1
                                  try clear hfz67_2
                                  try clear hfz69_0
                                  try clear hfz69_1
                                  try clear hfz69_2
                                  try clear hfz70_0
                                  try clear hfz70_1
                                  try clear hfz70_2
                                  try clear hfz72_0
                                  try clear hfz72_1
                                  try clear hfz72_2
                                  try clear hx176_0
                                  try clear hx176_1
                                  try clear hx176_2
                                  try clear hx182_0
                                  try clear hx182_1
                                  try clear hx182_2
                                  try clear hx187_0
                                  try clear hx187_1
                                  try clear hx187_2
                                  try clear hx191_0
                                  try clear hx191_1
                                  try clear hx191_2
                                  try clear hx200_0
                                  try clear p1
                                  try clear p17
                                  try clear p176
                                  try clear p18
                                  try clear p182
                                  try clear p187
                                  try clear p19
                                  try clear p191
                                  try clear p2
                                  try clear p200
                                  try clear p6
                                  try clear q1
                                  try clear q17
                                  try clear q176
                                  try clear q18
                                  try clear q182
                                  try clear q187
                                  try clear q19
                                  try clear q191
                                  try clear q200
                                  obtain ⟨kq, x123_58, rfl, HA, HJ58, BK192, HB⟩ := hcut
                                  cases kq with
                                  | zero => exact absurd HA.out (by simp [crossroadlaw07_TableChecks.j5])
                                  | succ kj58 =>
                                    have H := HA.out
                                    clear HA
                                    simp only [crossroadlaw07_TableChecks.j5] at H
                                    by_cases c74 : x123_58 = true
                                    · subst c74
                                      have H1 : (some false) = some r := by rw [if_pos rfl] at H; exact H
                                      clear H
                                      have H := H1
                                      clear H1
                                      obtain rfl := Option.some.inj H
                                      go_wp2
                                      repeat (go_quiet (fail); try go_wp2)
                                      go_ret
                                      exact ⟨by first | rfl | (simp [errW_none, errW_some] <;> rfl) | (simp [*, errW_none, errW_some] <;> rfl), by repeat (first | (with_reducible first | exact HB.out | apply below_alloc | apply pw_below_drewN | apply below_drew1 | refine below_set ?_ GE192.out) | exact HB.out)⟩
                                    · replace c74 := Bool.eq_false_iff.mpr c74
                                      subst c74
                                      have H1 : ((table_Right.f kj58 ((rd_T27 l0 x81_3).f0) ((rd_T27 l0 x81_3).f1) ((rd_T27 l0 x81_3).f2)).bind fun t204 => (if t204 = true then (crossroadlaw07_TableChecks.l2 kj58 l0 x3_3 l0 (l0.length : Int) (wrap64 (x81_3 + 1))) else (crossroadlaw07_TableChecks.l2 kj58 l0 1 l0 (l0.length : Int) (wrap64 (x81_3 + 1))))) = some r := by rw [if_neg (show ¬ (false = true) by decide)] at H; exact H
                                      clear H
                                      have H := H1
                                      clear H1
                                      replace H := Option.bind_eq_some_iff.mp H
                                      obtain ⟨t204, A750, H⟩ := H
                                      replace H : (if t204 = true then (crossroadlaw07_TableChecks.l2 kj58 l0 x3_3 l0 (l0.length : Int) (wrap64 (x81_3 + 1))) else (crossroadlaw07_TableChecks.l2 kj58 l0 1 l0 (l0.length : Int) (wrap64 (x81_3 + 1)))) = some r := H
                                      have A75 := Aside0.mk A750
                                      clear A750
                                      by_cases c76 : t204 = true
                                      · subst c76
                                        have H1 : (crossroadlaw07_TableChecks.l2 kj58 l0 x3_3 l0 (l0.length : Int) (wrap64 (x81_3 + 1))) = some r := by rw [if_pos rfl] at H; exact H
                                        clear H
                                        have H := H1
                                        clear H1
                                        have H' := Aside0.mk H
                                        clear H
                                        have hcz77_0 : wc.cell? ⟨gb192, 0, none⟩ = some (.string ((rd_T27 l0 x81_3).f0)) := (blk_cell BK192.out 0).trans rfl
                                        have hcz77_1 : wc.cell? ⟨gb192, 1, none⟩ = some (.string ((rd_T27 l0 x81_3).f1)) := (blk_cell BK192.out 1).trans rfl
                                        have hcz77_2 : wc.cell? ⟨gb192, 2, none⟩ = some (.string ((rd_T27 l0 x81_3).f2)) := (blk_cell BK192.out 2).trans rfl
                                        have hfz77_0 := blk_frozen BK192.out 0
                                        have hfz77_1 := blk_frozen BK192.out 1
                                        have hfz77_2 := blk_frozen BK192.out 2
                                        go_wp2_with (first | (go_at_call 14; (with_reducible refine (table_Right.calls kj58 ((rd_T27 l0 x81_3).f0) ((rd_T27 l0 x81_3).f1) ((rd_T27 l0 x81_3).f2) true _ A75.out ?glob38).mono ?_); (case glob38 => exact GlobOK.below HG.out (by repeat (first | (with_reducible first | exact HB.out | apply below_alloc | apply pw_below_drewN | apply below_drew1 | refine below_set ?_ (Aside0.out (by assumption))) | exact HB.out)) rfl); rintro e w78 ⟨rfl, hb⟩; have n0_ := Aside0.mk (blk_below (g := gb192) (o := .cells #[.string ((rd_T27 l0 x81_3).f0), .string ((rd_T27 l0 x81_3).f1), .string ((rd_T27 l0 x81_3).f2)] 27 (0, 0)) (by (with_reducible repeat (first | refine blk_drewN ?_ _ | refine blk_drew ?_ | refine blk_alloc ?_ _)); exact BK192.out) hb); have n1_ := Aside0.mk (below_step (by repeat (first | (with_reducible first | exact HB.out | apply below_alloc | apply pw_below_drewN | apply below_drew1 | refine below_set ?_ GE192.out) | exact HB.out)) hb); clear BK192; clear HB; have BK192 := n0_; have HB := n1_; clear n0_ n1_; (try clear hb); (try clear hb2); (try clear hk); (try clear hi)))
                                        repeat (go_quiet (first | (go_at_call 14; (with_reducible refine (table_Right.calls kj58 ((rd_T27 l0 x81_3).f0) ((rd_T27 l0 x81_3).f1) ((rd_T27 l0 x81_3).f2) true _ A75.out ?glob39).mono ?_); (case glob39 => exact GlobOK.below HG.out (by repeat (first | (with_reducible first | exact HB.out | apply below_alloc | apply pw_below_drewN | apply below_drew1 | refine below_set ?_ (Aside0.out (by assumption))) | exact HB.out)) rfl); rintro e w78 ⟨rfl, hb⟩; have n0_ := Aside0.mk (blk_below (g := gb192) (o := .cells #[.string ((rd_T27 l0 x81_3).f0), .string ((rd_T27 l0 x81_3).f1), .string ((rd_T27 l0 x81_3).f2)] 27 (0, 0)) (by (with_reducible repeat (first | refine blk_drewN ?_ _ | refine blk_drew ?_ | refine blk_alloc ?_ _)); exact BK192.out) hb); have n1_ := Aside0.mk (below_step (by repeat (first | (with_reducible first | exact HB.out | apply below_alloc | apply pw_below_drewN | apply below_drew1 | refine below_set ?_ GE192.out) | exact HB.out)) hb); clear BK192; clear HB; have BK192 := n0_; have HB := n1_; clear n0_ n1_; (try clear hb); (try clear hb2); (try clear hk); (try clear hi))); try go_wp2_with (first | (go_at_call 14; (with_reducible refine (table_Right.calls kj58 ((rd_T27 l0 x81_3).f0) ((rd_T27 l0 x81_3).f1) ((rd_T27 l0 x81_3).f2) true _ A75.out ?glob40).mono ?_); (case glob40 => exact GlobOK.below HG.out (by repeat (first | (with_reducible first | exact HB.out | apply below_alloc | apply pw_below_drewN | apply below_drew1 | refine below_set ?_ (Aside0.out (by assumption))) | exact HB.out)) rfl); rintro e w78 ⟨rfl, hb⟩; have n0_ := Aside0.mk (blk_below (g := gb192) (o := .cells #[.string ((rd_T27 l0 x81_3).f0), .string ((rd_T27 l0 x81_3).f1), .string ((rd_T27 l0 x81_3).f2)] 27 (0, 0)) (by (with_reducible repeat (first | refine blk_drewN ?_ _ | refine blk_drew ?_ | refine blk_alloc ?_ _)); exact BK192.out) hb); have n1_ := Aside0.mk (below_step (by repeat (first | (with_reducible first | exact HB.out | apply below_alloc | apply pw_below_drewN | apply below_drew1 | refine below_set ?_ GE192.out) | exact HB.out)) hb); clear BK192; clear HB; have BK192 := n0_; have HB := n1_; clear n0_ n1_; (try clear hb); (try clear hb2); (try clear hk); (try clear hi))))
                                        go_roundg kj58
                                        case measure => have := HK1.out; have := HJ41.out; have := HK3.out; have := HK4.out; have := HJ58.out; omega
                                        case rel => exact ⟨(x3_3), (wrap64 (x81_3 + 1)), (by first | rfl | (simp; done) | (simp [*]; done)), (by first | rfl | (simp; done) | (simp [*]; done)), H', ⟨by have := HK1.out; have := HJ41.out; have := HK3.out; have := HK4.out; have := HJ58.out; omega⟩, ⟨by repeat (first | (with_reducible first | exact HB.out | apply below_alloc | apply pw_below_drewN | apply below_drew1 | refine below_set ?_ GE192.out) | exact HB.out)⟩⟩
                                      · replace c76 := Bool.eq_false_iff.mpr c76
                                        subst c76
                                        have H1 : (crossroadlaw07_TableChecks.l2 kj58 l0 1 l0 (l0.length : Int) (wrap64 (x81_3 + 1))) = some r := by rw [if_neg (show ¬ (false = true) by decide)] at H; exact H
                                        clear H
                                        have H := H1
                                        clear H1
                                        have H' := Aside0.mk H
                                        clear H
                                        have hcz79_0 : wc.cell? ⟨gb192, 0, none⟩ = some (.string ((rd_T27 l0 x81_3).f0)) := (blk_cell BK192.out 0).trans rfl
                                        have hcz79_1 : wc.cell? ⟨gb192, 1, none⟩ = some (.string ((rd_T27 l0 x81_3).f1)) := (blk_cell BK192.out 1).trans rfl
                                        have hcz79_2 : wc.cell? ⟨gb192, 2, none⟩ = some (.string ((rd_T27 l0 x81_3).f2)) := (blk_cell BK192.out 2).trans rfl
                                        have hfz79_0 := blk_frozen BK192.out 0
                                        have hfz79_1 := blk_frozen BK192.out 1
                                        have hfz79_2 := blk_frozen BK192.out 2
                                        go_wp2_with (first | (go_at_call 14; (with_reducible refine (table_Right.calls kj58 ((rd_T27 l0 x81_3).f0) ((rd_T27 l0 x81_3).f1) ((rd_T27 l0 x81_3).f2) false _ A75.out ?glob41).mono ?_); (case glob41 => exact GlobOK.below HG.out (by repeat (first | (with_reducible first | exact HB.out | apply below_alloc | apply pw_below_drewN | apply below_drew1 | refine below_set ?_ (Aside0.out (by assumption))) | exact HB.out)) rfl); rintro e w80 ⟨rfl, hb⟩; have n0_ := Aside0.mk (blk_below (g := gb192) (o := .cells #[.string ((rd_T27 l0 x81_3).f0), .string ((rd_T27 l0 x81_3).f1), .string ((rd_T27 l0 x81_3).f2)] 27 (0, 0)) (by (with_reducible repeat (first | refine blk_drewN ?_ _ | refine blk_drew ?_ | refine blk_alloc ?_ _)); exact BK192.out) hb); have n1_ := Aside0.mk (below_step (by repeat (first | (with_reducible first | exact HB.out | apply below_alloc | apply pw_below_drewN | apply below_drew1 | refine below_set ?_ GE192.out) | exact HB.out)) hb); clear BK192; clear HB; have BK192 := n0_; have HB := n1_; clear n0_ n1_; (try clear hb); (try clear hb2); (try clear hk); (try clear hi)))
                                        repeat (go_quiet (first | (go_at_call 14; (with_reducible refine (table_Right.calls kj58 ((rd_T27 l0 x81_3).f0) ((rd_T27 l0 x81_3).f1) ((rd_T27 l0 x81_3).f2) false _ A75.out ?glob42).mono ?_); (case glob42 => exact GlobOK.below HG.out (by repeat (first | (with_reducible first | exact HB.out | apply below_alloc | apply pw_below_drewN | apply below_drew1 | refine below_set ?_ (Aside0.out (by assumption))) | exact HB.out)) rfl); rintro e w80 ⟨rfl, hb⟩; have n0_ := Aside0.mk (blk_below (g := gb192) (o := .cells #[.string ((rd_T27 l0 x81_3).f0), .string ((rd_T27 l0 x81_3).f1), .string ((rd_T27 l0 x81_3).f2)] 27 (0, 0)) (by (with_reducible repeat (first | refine blk_drewN ?_ _ | refine blk_drew ?_ | refine blk_alloc ?_ _)); exact BK192.out) hb); have n1_ := Aside0.mk (below_step (by repeat (first | (with_reducible first | exact HB.out | apply below_alloc | apply pw_below_drewN | apply below_drew1 | refine below_set ?_ GE192.out) | exact HB.out)) hb); clear BK192; clear HB; have BK192 := n0_; have HB := n1_; clear n0_ n1_; (try clear hb); (try clear hb2); (try clear hk); (try clear hi))); try go_wp2_with (first | (go_at_call 14; (with_reducible refine (table_Right.calls kj58 ((rd_T27 l0 x81_3).f0) ((rd_T27 l0 x81_3).f1) ((rd_T27 l0 x81_3).f2) false _ A75.out ?glob43).mono ?_); (case glob43 => exact GlobOK.below HG.out (by repeat (first | (with_reducible first | exact HB.out | apply below_alloc | apply pw_below_drewN | apply below_drew1 | refine below_set ?_ (Aside0.out (by assumption))) | exact HB.out)) rfl); rintro e w80 ⟨rfl, hb⟩; have n0_ := Aside0.mk (blk_below (g := gb192) (o := .cells #[.string ((rd_T27 l0 x81_3).f0), .string ((rd_T27 l0 x81_3).f1), .string ((rd_T27 l0 x81_3).f2)] 27 (0, 0)) (by (with_reducible repeat (first | refine blk_drewN ?_ _ | refine blk_drew ?_ | refine blk_alloc ?_ _)); exact BK192.out) hb); have n1_ := Aside0.mk (below_step (by repeat (first | (with_reducible first | exact HB.out | apply below_alloc | apply pw_below_drewN | apply below_drew1 | refine below_set ?_ GE192.out) | exact HB.out)) hb); clear BK192; clear HB; have BK192 := n0_; have HB := n1_; clear n0_ n1_; (try clear hb); (try clear hb2); (try clear hk); (try clear hi))))
                                        go_roundg kj58
                                        case measure => have := HK1.out; have := HJ41.out; have := HK3.out; have := HK4.out; have := HJ58.out; omega
                                        case rel => exact ⟨(1), (wrap64 (x81_3 + 1)), (by first | rfl | (simp; done) | (simp [*]; done)), (by first | rfl | (simp; done) | (simp [*]; done)), H', ⟨by have := HK1.out; have := HJ41.out; have := HK3.out; have := HK4.out; have := HJ58.out; omega⟩, ⟨by repeat (first | (with_reducible first | exact HB.out | apply below_alloc | apply pw_below_drewN | apply below_drew1 | refine below_set ?_ GE192.out) | exact HB.out)⟩⟩
                        · rw [if_neg c46] at H
                          exact absurd H (by simp)
                      · rw [if_neg c45] at H
                        exact absurd H (by simp)
                    · rw [if_neg c44] at H
                      have c44b0 : decide (x81_3 < (l0.length : Int)) = false := decide_eq_false c44
                      clear c44
                      replace H := Option.bind_eq_some_iff.mp H
                      obtain ⟨t190, A810, H⟩ := H
                      replace H : (some (t190 == x3_3)) = some r := H
                      have A81 := Aside0.mk A810
                      clear A810
                      obtain rfl := Option.some.inj H
                      go_wp2_with (first | (go_at_call 16; (with_reducible refine (table_Check.calls k3 _ _ l0 t190 _ ?side1 ?side2 A81.out ?glob44).mono ?_); (case glob44 => exact GlobOK.below HG.out (by repeat (first | (with_reducible first | exact HB.out | apply below_alloc | apply pw_below_drewN | apply below_drew1 | refine below_set ?_ (Aside0.out (by assumption))) | exact HB.out)) rfl); (case side1 => repeat (first | exact (Kd.C_below HR0.out HB.out) | (with_reducible refine Kd.C_alloc ?_ _) | (with_reducible refine Kd.C_drewN ?_ _) | (with_reducible refine Kd.C_drew ?_))); (case side2 => exact HC0.out); rintro e w82 ⟨rfl, hb⟩; have n0_ := Aside0.mk (below_step (by repeat (first | (with_reducible first | exact HB.out | apply below_alloc | apply pw_below_drewN | apply below_drew1) | exact HB.out)) hb); clear HB; have HB := n0_; clear n0_; (try clear hb); (try clear hb2); (try clear hk); (try clear hi)))
                      repeat (go_quiet (first | (go_at_call 16; (with_reducible refine (table_Check.calls k3 _ _ l0 t190 _ ?side1 ?side2 A81.out ?glob45).mono ?_); (case glob45 => exact GlobOK.below HG.out (by repeat (first | (with_reducible first | exact HB.out | apply below_alloc | apply pw_below_drewN | apply below_drew1 | refine below_set ?_ (Aside0.out (by assumption))) | exact HB.out)) rfl); (case side1 => repeat (first | exact (Kd.C_below HR0.out HB.out) | (with_reducible refine Kd.C_alloc ?_ _) | (with_reducible refine Kd.C_drewN ?_ _) | (with_reducible refine Kd.C_drew ?_))); (case side2 => exact HC0.out); rintro e w82 ⟨rfl, hb⟩; have n0_ := Aside0.mk (below_step (by repeat (first | (with_reducible first | exact HB.out | apply below_alloc | apply pw_below_drewN | apply below_drew1) | exact HB.out)) hb); clear HB; have HB := n0_; clear n0_; (try clear hb); (try clear hb2); (try clear hk); (try clear hi))); try go_wp2_with (first | (go_at_call 16; (with_reducible refine (table_Check.calls k3 _ _ l0 t190 _ ?side1 ?side2 A81.out ?glob46).mono ?_); (case glob46 => exact GlobOK.below HG.out (by repeat (first | (with_reducible first | exact HB.out | apply below_alloc | apply pw_below_drewN | apply below_drew1 | refine below_set ?_ (Aside0.out (by assumption))) | exact HB.out)) rfl); (case side1 => repeat (first | exact (Kd.C_below HR0.out HB.out) | (with_reducible refine Kd.C_alloc ?_ _) | (with_reducible refine Kd.C_drewN ?_ _) | (with_reducible refine Kd.C_drew ?_))); (case side2 => exact HC0.out); rintro e w82 ⟨rfl, hb⟩; have n0_ := Aside0.mk (below_step (by repeat (first | (with_reducible first | exact HB.out | apply below_alloc | apply pw_below_drewN | apply below_drew1) | exact HB.out)) hb); clear HB; have HB := n0_; clear n0_; (try clear hb); (try clear hb2); (try clear hk); (try clear hi))))
                      go_ret
                      exact ⟨by first | rfl | (simp [errW_none, errW_some] <;> rfl) | (simp [*, errW_none, errW_some] <;> rfl), by repeat (first | (with_reducible first | exact HB.out | apply below_alloc | apply pw_below_drewN | apply below_drew1) | exact HB.out)⟩
    · replace c5 := Bool.eq_false_iff.mpr c5
      subst c5
      have H1 : (some true) = some r := by rw [if_neg (show ¬ (false = true) by decide)] at H; exact H
      clear H
      have H := H1
      clear H1
      obtain rfl := Option.some.inj H
      go_enter Tryd.func3, Tryd.ntmps3
      go_wp2_with (first | (go_at_call 9; (with_reducible refine (crossroadlaw07_fit.calls k  true _ A2.out ?glob47).mono ?_); (case glob47 => exact GlobOK.below HG.out (by repeat (first | (with_reducible first | exact HB.out | apply below_alloc | apply pw_below_drewN | apply below_drew1 | refine below_set ?_ (Aside0.out (by assumption))) | exact HB.out)) rfl); rintro e w83 ⟨rfl, hb⟩; have n0_ := Aside0.mk (below_step (by repeat (first | (with_reducible first | exact HB.out | apply below_alloc | apply pw_below_drewN | apply below_drew1) | exact HB.out)) hb); clear HB; have HB := n0_; clear n0_; (try clear hb); (try clear hb2); (try clear hk); (try clear hi)) | (go_at_call 10; (with_reducible refine (crossroadlaw07_light.calls k _ _ l0 false _ ?side1 ?side2 A4.out).mono ?_); (case side1 => repeat (first | exact (Kd.C_below HR0.out HB.out) | (with_reducible refine Kd.C_alloc ?_ _) | (with_reducible refine Kd.C_drewN ?_ _) | (with_reducible refine Kd.C_drew ?_))); (case side2 => exact HC0.out); rintro e w84 ⟨rfl, hb⟩; have n0_ := Aside0.mk (below_step (by repeat (first | (with_reducible first | exact HB.out | apply below_alloc | apply pw_below_drewN | apply below_drew1) | exact HB.out)) hb); clear HB; have HB := n0_; clear n0_; (try clear hb); (try clear hb2); (try clear hk); (try clear hi)))
      repeat (go_quiet (first | (go_at_call 9; (with_reducible refine (crossroadlaw07_fit.calls k  true _ A2.out ?glob48).mono ?_); (case glob48 => exact GlobOK.below HG.out (by repeat (first | (with_reducible first | exact HB.out | apply below_alloc | apply pw_below_drewN | apply below_drew1 | refine below_set ?_ (Aside0.out (by assumption))) | exact HB.out)) rfl); rintro e w83 ⟨rfl, hb⟩; have n0_ := Aside0.mk (below_step (by repeat (first | (with_reducible first | exact HB.out | apply below_alloc | apply pw_below_drewN | apply below_drew1) | exact HB.out)) hb); clear HB; have HB := n0_; clear n0_; (try clear hb); (try clear hb2); (try clear hk); (try clear hi)) | (go_at_call 10; (with_reducible refine (crossroadlaw07_light.calls k _ _ l0 false _ ?side1 ?side2 A4.out).mono ?_); (case side1 => repeat (first | exact (Kd.C_below HR0.out HB.out) | (with_reducible refine Kd.C_alloc ?_ _) | (with_reducible refine Kd.C_drewN ?_ _) | (with_reducible refine Kd.C_drew ?_))); (case side2 => exact HC0.out); rintro e w84 ⟨rfl, hb⟩; have n0_ := Aside0.mk (below_step (by repeat (first | (with_reducible first | exact HB.out | apply below_alloc | apply pw_below_drewN | apply below_drew1) | exact HB.out)) hb); clear HB; have HB := n0_; clear n0_; (try clear hb); (try clear hb2); (try clear hk); (try clear hi))); try go_wp2_with (first | (go_at_call 9; (with_reducible refine (crossroadlaw07_fit.calls k  true _ A2.out ?glob49).mono ?_); (case glob49 => exact GlobOK.below HG.out (by repeat (first | (with_reducible first | exact HB.out | apply below_alloc | apply pw_below_drewN | apply below_drew1 | refine below_set ?_ (Aside0.out (by assumption))) | exact HB.out)) rfl); rintro e w83 ⟨rfl, hb⟩; have n0_ := Aside0.mk (below_step (by repeat (first | (with_reducible first | exact HB.out | apply below_alloc | apply pw_below_drewN | apply below_drew1) | exact HB.out)) hb); clear HB; have HB := n0_; clear n0_; (try clear hb); (try clear hb2); (try clear hk); (try clear hi)) | (go_at_call 10; (with_reducible refine (crossroadlaw07_light.calls k _ _ l0 false _ ?side1 ?side2 A4.out).mono ?_); (case side1 => repeat (first | exact (Kd.C_below HR0.out HB.out) | (with_reducible refine Kd.C_alloc ?_ _) | (with_reducible refine Kd.C_drewN ?_ _) | (with_reducible refine Kd.C_drew ?_))); (case side2 => exact HC0.out); rintro e w84 ⟨rfl, hb⟩; have n0_ := Aside0.mk (below_step (by repeat (first | (with_reducible first | exact HB.out | apply below_alloc | apply pw_below_drewN | apply below_drew1) | exact HB.out)) hb); clear HB; have HB := n0_; clear n0_; (try clear hb); (try clear hb2); (try clear hk); (try clear hi))))
      go_ret
      exact ⟨by first | rfl | (simp [errW_none, errW_some] <;> rfl) | (simp [*, errW_none, errW_some] <;> rfl), by repeat (first | (with_reducible first | exact HB.out | apply below_alloc | apply pw_below_drewN | apply below_drew1) | exact HB.out)⟩
  · replace c3 := Bool.eq_false_iff.mpr c3
    subst c3
    have H1 : (some false) = some r := by rw [if_neg (show ¬ (false = true) by decide)] at H; exact H
    clear H
    have H := H1
    clear H1
    obtain rfl := Option.some.inj H
    go_enter Tryd.func3, Tryd.ntmps3
    go_wp2_with (first | (go_at_call 9; (with_reducible refine (crossroadlaw07_fit.calls k  false _ A2.out ?glob50).mono ?_); (case glob50 => exact GlobOK.below HG.out (by repeat (first | (with_reducible first | exact HB.out | apply below_alloc | apply pw_below_drewN | apply below_drew1 | refine below_set ?_ (Aside0.out (by assumption))) | exact HB.out)) rfl); rintro e w85 ⟨rfl, hb⟩; have n0_ := Aside0.mk (below_step (by repeat (first | (with_reducible first | exact HB.out | apply below_alloc | apply pw_below_drewN | apply below_drew1) | exact HB.out)) hb); clear HB; have HB := n0_; clear n0_; (try clear hb); (try clear hb2); (try clear hk); (try clear hi)))
    repeat (go_quiet (first | (go_at_call 9; (with_reducible refine (crossroadlaw07_fit.calls k  false _ A2.out ?glob51).mono ?_); (case glob51 => exact GlobOK.below HG.out (by repeat (first | (with_reducible first | exact HB.out | apply below_alloc | apply pw_below_drewN | apply below_drew1 | refine below_set ?_ (Aside0.out (by assumption))) | exact HB.out)) rfl); rintro e w85 ⟨rfl, hb⟩; have n0_ := Aside0.mk (below_step (by repeat (first | (with_reducible first | exact HB.out | apply below_alloc | apply pw_below_drewN | apply below_drew1) | exact HB.out)) hb); clear HB; have HB := n0_; clear n0_; (try clear hb); (try clear hb2); (try clear hk); (try clear hi))); try go_wp2_with (first | (go_at_call 9; (with_reducible refine (crossroadlaw07_fit.calls k  false _ A2.out ?glob52).mono ?_); (case glob52 => exact GlobOK.below HG.out (by repeat (first | (with_reducible first | exact HB.out | apply below_alloc | apply pw_below_drewN | apply below_drew1 | refine below_set ?_ (Aside0.out (by assumption))) | exact HB.out)) rfl); rintro e w85 ⟨rfl, hb⟩; have n0_ := Aside0.mk (below_step (by repeat (first | (with_reducible first | exact HB.out | apply below_alloc | apply pw_below_drewN | apply below_drew1) | exact HB.out)) hb); clear HB; have HB := n0_; clear n0_; (try clear hb); (try clear hb2); (try clear hk); (try clear hi))))
    go_ret
    exact ⟨by first | rfl | (simp [errW_none, errW_some] <;> rfl) | (simp [*, errW_none, errW_some] <;> rfl), by repeat (first | (with_reducible first | exact HB.out | apply below_alloc | apply pw_below_drewN | apply below_drew1) | exact HB.out)⟩

end Go.Proofs.YtidkhbkndbnnjaaDoor.X

-- Written for this claim by a program of this session (wip/xprint.py). Not trusted: Lean checks it.
import Derived.Test.YtlkknhojfhbopaaX0
import Derived.Test.YtlkknhojfhbopaaX3
import Derived.Test.YtlkknhojfhbopaaX8
namespace Go.Proofs.Ytlkknhojfhbopaa.X
open Go.RowKit Go.Proofs.YtlkknhojfhbopaaW.PrintWords Go.Proofs.YtlkknhojfhbopaaW.PrintLast Go.Proofs.YtlkknhojfhbopaaW.PrintMore
attribute [local go_sem] max2_int min2_int max_two min_two max_three min_three max_four min_four   -- for this text's walks alone
set_option linter.unusedVariables false
set_option linter.unusedSimpArgs false

/-! ### crossroadlaw01_AsciiTrims: function 7 -/
mutual
def crossroadlaw01_AsciiTrims.j0 : Nat → ByteArray → Int → Int → ByteArray → Bool → Option (Bool)
  | 0, _, _, _, _, _ => none
  | k + 1, x0, x1, x2, x7, x61 => if x61 = true then (some false) else (crossroadlaw01_AsciiTrims.l0 k x0 x1 x2 x7 true (x0.size : Int) 0)
def crossroadlaw01_AsciiTrims.l0 : Nat → ByteArray → Int → Int → ByteArray → Bool → Int → Int → Option (Bool)
  | 0, _, _, _, _, _, _, _ => none
  | k + 1, x0, x1, x2, x7, x8, x63, x64 => if x64 < x63 then (if x8 = true then (if 0 ≤ x64 then (if x64 < (x0.size : Int) then (if (bt x0 x64) = 32 then (crossroadlaw01_AsciiTrims.l0 k x0 x1 x2 x7 true x63 (wrap64 (x64 + 1))) else (crossroadlaw01_AsciiTrims.l0 k x0 x1 x2 x7 ((bt x0 x64) == 9) x63 (wrap64 (x64 + 1)))) else (none)) else (none)) else (crossroadlaw01_AsciiTrims.l0 k x0 x1 x2 x7 false x63 (wrap64 (x64 + 1)))) else (if ((x7.toList.isEmpty) == x8) = true then (if 0 ≤ x1 then (if x1 ≤ 8 then (if ((⟨#[9, 32, 32, 32, 32, 32, 32, 32]⟩ : ByteArray).extract 0 (x1 : Int).toNat).size + x0.size ≤ 9223372036854775807 then (if 0 ≤ x2 then (if x2 ≤ 8 then (if (((⟨#[9, 32, 32, 32, 32, 32, 32, 32]⟩ : ByteArray).extract 0 (x1 : Int).toNat) ++ x0).size + ((⟨#[32, 32, 9, 32, 32, 32, 32, 32]⟩ : ByteArray).extract 0 (x2 : Int).toNat).size ≤ 9223372036854775807 then ((ascii_Trim.f k ((((⟨#[9, 32, 32, 32, 32, 32, 32, 32]⟩ : ByteArray).extract 0 (x1 : Int).toNat) ++ x0) ++ ((⟨#[32, 32, 9, 32, 32, 32, 32, 32]⟩ : ByteArray).extract 0 (x2 : Int).toNat))).bind fun t155 => (some (t155.toList == x7.toList))) else (none)) else (none)) else (none)) else (none)) else (none)) else (none)) else (some false))
end
def crossroadlaw01_AsciiTrims.f (k : Nat) (a0 : ByteArray) (a1 : Int) (a2 : Int) : Option (Bool) := (crossroadlaw01_fit.f k).bind fun t151 => (if t151 = true then ((crossroadlaw01_light.f a0).bind fun t152 => (if t152 = true then ((ascii_Trim.f k a0).bind fun t153 => ((ascii_Trim.f k t153).bind fun t154 => (if t154.toList = t153.toList then (if (t153.size : Int) > (a0.size : Int) then (crossroadlaw01_AsciiTrims.j0 k a0 (Go.bits .and .i64 a1 7) (Go.bits .and .i64 a2 7) t153 true) else (if t153.toList = ([] : List UInt8) then (crossroadlaw01_AsciiTrims.j0 k a0 (Go.bits .and .i64 a1 7) (Go.bits .and .i64 a2 7) t153 false) else (if 0 < (t153.size : Int) then (if (bt t153 0) = 32 then (crossroadlaw01_AsciiTrims.j0 k a0 (Go.bits .and .i64 a1 7) (Go.bits .and .i64 a2 7) t153 true) else (if (bt t153 0) = 9 then (crossroadlaw01_AsciiTrims.j0 k a0 (Go.bits .and .i64 a1 7) (Go.bits .and .i64 a2 7) t153 true) else (if 0 ≤ (wrap64 ((t153.size : Int) - 1)) then (if (wrap64 ((t153.size : Int) - 1)) < (t153.size : Int) then (if (bt t153 (wrap64 ((t153.size : Int) - 1))) = 32 then (crossroadlaw01_AsciiTrims.j0 k a0 (Go.bits .and .i64 a1 7) (Go.bits .and .i64 a2 7) t153 true) else (crossroadlaw01_AsciiTrims.j0 k a0 (Go.bits .and .i64 a1 7) (Go.bits .and .i64 a2 7) t153 ((bt t153 (wrap64 ((t153.size : Int) - 1))) == 9))) else (none)) else (none)))) else (none)))) else (crossroadlaw01_AsciiTrims.j0 k a0 (Go.bits .and .i64 a1 7) (Go.bits .and .i64 a2 7) t153 true)))) else (some true))) else (some false))
theorem crossroadlaw01_AsciiTrims.mono_l : ∀ k, (∀ y0 y1 y2 y3 y4, LeO (crossroadlaw01_AsciiTrims.j0 k y0 y1 y2 y3 y4) (crossroadlaw01_AsciiTrims.j0 (k + 1) y0 y1 y2 y3 y4)) ∧ (∀ y0 y1 y2 y3 y4 y5 y6, LeO (crossroadlaw01_AsciiTrims.l0 k y0 y1 y2 y3 y4 y5 y6) (crossroadlaw01_AsciiTrims.l0 (k + 1) y0 y1 y2 y3 y4 y5 y6))
  | 0 => ⟨fun _ _ _ _ _ r h => by simp [crossroadlaw01_AsciiTrims.j0] at h, fun _ _ _ _ _ _ _ r h => by simp [crossroadlaw01_AsciiTrims.l0] at h⟩
  | k + 1 => by
    obtain ⟨ih0, ih1⟩ := crossroadlaw01_AsciiTrims.mono_l k
    refine ⟨?_, ?_⟩
    · intro y0 y1 y2 y3 y4
      unfold crossroadlaw01_AsciiTrims.j0
      repeat' first
      | (with_reducible exact ih0 _ _ _ _ _)
      | (with_reducible exact ih1 _ _ _ _ _ _ _)
      | (with_reducible exact ascii_Trim.mono _ _)
      | (with_reducible exact crossroadlaw01_fit.mono _)
      | (with_reducible exact LeO.refl _)
      | (with_reducible exact LeO.none _)
      | (with_reducible refine LeO.ite ?_ ?_)
      | (with_reducible refine LeO.bind ?_ (fun _ => ?_))
      | exact ih0 _ _ _ _ _
      | exact ih1 _ _ _ _ _ _ _
      | exact ascii_Trim.mono _ _
      | exact crossroadlaw01_fit.mono _
      | exact LeO.none _
      | refine LeO.ite ?_ ?_
      | refine LeO.bind ?_ (fun _ => ?_)
    · intro y0 y1 y2 y3 y4 y5 y6
      unfold crossroadlaw01_AsciiTrims.l0
      repeat' first
      | (with_reducible exact ih0 _ _ _ _ _)
      | (with_reducible exact ih1 _ _ _ _ _ _ _)
      | (with_reducible exact ascii_Trim.mono _ _)
      | (with_reducible exact crossroadlaw01_fit.mono _)
      | (with_reducible exact LeO.refl _)
      | (with_reducible exact LeO.none _)
      | (with_reducible refine LeO.ite ?_ ?_)
      | (with_reducible refine LeO.bind ?_ (fun _ => ?_))
      | exact ih0 _ _ _ _ _
      | exact ih1 _ _ _ _ _ _ _
      | exact ascii_Trim.mono _ _
      | exact crossroadlaw01_fit.mono _
      | exact LeO.none _
      | refine LeO.ite ?_ ?_
      | refine LeO.bind ?_ (fun _ => ?_)
theorem crossroadlaw01_AsciiTrims.mono : ∀ a0 a1 a2 k, LeO (crossroadlaw01_AsciiTrims.f k a0 a1 a2) (crossroadlaw01_AsciiTrims.f (k + 1) a0 a1 a2) := by
  intro a0 a1 a2 k
  obtain ⟨ih0, ih1⟩ := crossroadlaw01_AsciiTrims.mono_l k
  unfold crossroadlaw01_AsciiTrims.f
  repeat' first
      | (with_reducible exact ih0 _ _ _ _ _)
      | (with_reducible exact ih1 _ _ _ _ _ _ _)
      | (with_reducible exact ascii_Trim.mono _ _)
      | (with_reducible exact crossroadlaw01_fit.mono _)
      | (with_reducible exact LeO.refl _)
      | (with_reducible exact LeO.none _)
      | (with_reducible refine LeO.ite ?_ ?_)
      | (with_reducible refine LeO.bind ?_ (fun _ => ?_))
      | exact ih0 _ _ _ _ _
      | exact ih1 _ _ _ _ _ _ _
      | exact ascii_Trim.mono _ _
      | exact crossroadlaw01_fit.mono _
      | exact LeO.none _
      | refine LeO.ite ?_ ?_
      | refine LeO.bind ?_ (fun _ => ?_)
set_option maxHeartbeats 8000000 in
set_option maxRecDepth 100000 in
theorem crossroadlaw01_AsciiTrims.calls (k : Nat) (a0 : ByteArray) (a1 : Int) (a2 : Int) (r : Bool) (w : World) (h : crossroadlaw01_AsciiTrims.f k a0 a1 a2 = some r) :
    Calls Try.prog 7 #[.string a0, .int .i64 a1, .int .i64 a2] w fun e w' => e = .returned (.bool r) ∧ Below w.heap.size w w' := by
  have HB := Aside0.mk (Below.refl w.heap.size w)
  have H : ((crossroadlaw01_fit.f k).bind fun t151 => (if t151 = true then ((crossroadlaw01_light.f a0).bind fun t152 => (if t152 = true then ((ascii_Trim.f k a0).bind fun t153 => ((ascii_Trim.f k t153).bind fun t154 => (if t154.toList = t153.toList then (if (t153.size : Int) > (a0.size : Int) then (crossroadlaw01_AsciiTrims.j0 k a0 (Go.bits .and .i64 a1 7) (Go.bits .and .i64 a2 7) t153 true) else (if t153.toList = ([] : List UInt8) then (crossroadlaw01_AsciiTrims.j0 k a0 (Go.bits .and .i64 a1 7) (Go.bits .and .i64 a2 7) t153 false) else (if 0 < (t153.size : Int) then (if (bt t153 0) = 32 then (crossroadlaw01_AsciiTrims.j0 k a0 (Go.bits .and .i64 a1 7) (Go.bits .and .i64 a2 7) t153 true) else (if (bt t153 0) = 9 then (crossroadlaw01_AsciiTrims.j0 k a0 (Go.bits .and .i64 a1 7) (Go.bits .and .i64 a2 7) t153 true) else (if 0 ≤ (wrap64 ((t153.size : Int) - 1)) then (if (wrap64 ((t153.size : Int) - 1)) < (t153.size : Int) then (if (bt t153 (wrap64 ((t153.size : Int) - 1))) = 32 then (crossroadlaw01_AsciiTrims.j0 k a0 (Go.bits .and .i64 a1 7) (Go.bits .and .i64 a2 7) t153 true) else (crossroadlaw01_AsciiTrims.j0 k a0 (Go.bits .and .i64 a1 7) (Go.bits .and .i64 a2 7) t153 ((bt t153 (wrap64 ((t153.size : Int) - 1))) == 9))) else (none)) else (none)))) else (none)))) else (crossroadlaw01_AsciiTrims.j0 k a0 (Go.bits .and .i64 a1 7) (Go.bits .and .i64 a2 7) t153 true)))) else (some true))) else (some false))) = some r := h
  clear h
  replace H := Option.bind_eq_some_iff.mp H
  obtain ⟨t151, A40, H⟩ := H
  replace H : (if t151 = true then ((crossroadlaw01_light.f a0).bind fun t152 => (if t152 = true then ((ascii_Trim.f k a0).bind fun t153 => ((ascii_Trim.f k t153).bind fun t154 => (if t154.toList = t153.toList then (if (t153.size : Int) > (a0.size : Int) then (crossroadlaw01_AsciiTrims.j0 k a0 (Go.bits .and .i64 a1 7) (Go.bits .and .i64 a2 7) t153 true) else (if t153.toList = ([] : List UInt8) then (crossroadlaw01_AsciiTrims.j0 k a0 (Go.bits .and .i64 a1 7) (Go.bits .and .i64 a2 7) t153 false) else (if 0 < (t153.size : Int) then (if (bt t153 0) = 32 then (crossroadlaw01_AsciiTrims.j0 k a0 (Go.bits .and .i64 a1 7) (Go.bits .and .i64 a2 7) t153 true) else (if (bt t153 0) = 9 then (crossroadlaw01_AsciiTrims.j0 k a0 (Go.bits .and .i64 a1 7) (Go.bits .and .i64 a2 7) t153 true) else (if 0 ≤ (wrap64 ((t153.size : Int) - 1)) then (if (wrap64 ((t153.size : Int) - 1)) < (t153.size : Int) then (if (bt t153 (wrap64 ((t153.size : Int) - 1))) = 32 then (crossroadlaw01_AsciiTrims.j0 k a0 (Go.bits .and .i64 a1 7) (Go.bits .and .i64 a2 7) t153 true) else (crossroadlaw01_AsciiTrims.j0 k a0 (Go.bits .and .i64 a1 7) (Go.bits .and .i64 a2 7) t153 ((bt t153 (wrap64 ((t153.size : Int) - 1))) == 9))) else (none)) else (none)))) else (none)))) else (crossroadlaw01_AsciiTrims.j0 k a0 (Go.bits .and .i64 a1 7) (Go.bits .and .i64 a2 7) t153 true)))) else (some true))) else (some false)) = some r := H
  have A4 := Aside0.mk A40
  clear A40
  by_cases c5 : t151 = true
  · subst c5
    have H1 : ((crossroadlaw01_light.f a0).bind fun t152 => (if t152 = true then ((ascii_Trim.f k a0).bind fun t153 => ((ascii_Trim.f k t153).bind fun t154 => (if t154.toList = t153.toList then (if (t153.size : Int) > (a0.size : Int) then (crossroadlaw01_AsciiTrims.j0 k a0 (Go.bits .and .i64 a1 7) (Go.bits .and .i64 a2 7) t153 true) else (if t153.toList = ([] : List UInt8) then (crossroadlaw01_AsciiTrims.j0 k a0 (Go.bits .and .i64 a1 7) (Go.bits .and .i64 a2 7) t153 false) else (if 0 < (t153.size : Int) then (if (bt t153 0) = 32 then (crossroadlaw01_AsciiTrims.j0 k a0 (Go.bits .and .i64 a1 7) (Go.bits .and .i64 a2 7) t153 true) else (if (bt t153 0) = 9 then (crossroadlaw01_AsciiTrims.j0 k a0 (Go.bits .and .i64 a1 7) (Go.bits .and .i64 a2 7) t153 true) else (if 0 ≤ (wrap64 ((t153.size : Int) - 1)) then (if (wrap64 ((t153.size : Int) - 1)) < (t153.size : Int) then (if (bt t153 (wrap64 ((t153.size : Int) - 1))) = 32 then (crossroadlaw01_AsciiTrims.j0 k a0 (Go.bits .and .i64 a1 7) (Go.bits .and .i64 a2 7) t153 true) else (crossroadlaw01_AsciiTrims.j0 k a0 (Go.bits .and .i64 a1 7) (Go.bits .and .i64 a2 7) t153 ((bt t153 (wrap64 ((t153.size : Int) - 1))) == 9))) else (none)) else (none)))) else (none)))) else (crossroadlaw01_AsciiTrims.j0 k a0 (Go.bits .and .i64 a1 7) (Go.bits .and .i64 a2 7) t153 true)))) else (some true))) = some r := by rw [if_pos rfl] at H; exact H
    clear H
    have H := H1
    clear H1
    replace H := Option.bind_eq_some_iff.mp H
    obtain ⟨t152, A60, H⟩ := H
    replace H : (if t152 = true then ((ascii_Trim.f k a0).bind fun t153 => ((ascii_Trim.f k t153).bind fun t154 => (if t154.toList = t153.toList then (if (t153.size : Int) > (a0.size : Int) then (crossroadlaw01_AsciiTrims.j0 k a0 (Go.bits .and .i64 a1 7) (Go.bits .and .i64 a2 7) t153 true) else (if t153.toList = ([] : List UInt8) then (crossroadlaw01_AsciiTrims.j0 k a0 (Go.bits .and .i64 a1 7) (Go.bits .and .i64 a2 7) t153 false) else (if 0 < (t153.size : Int) then (if (bt t153 0) = 32 then (crossroadlaw01_AsciiTrims.j0 k a0 (Go.bits .and .i64 a1 7) (Go.bits .and .i64 a2 7) t153 true) else (if (bt t153 0) = 9 then (crossroadlaw01_AsciiTrims.j0 k a0 (Go.bits .and .i64 a1 7) (Go.bits .and .i64 a2 7) t153 true) else (if 0 ≤ (wrap64 ((t153.size : Int) - 1)) then (if (wrap64 ((t153.size : Int) - 1)) < (t153.size : Int) then (if (bt t153 (wrap64 ((t153.size : Int) - 1))) = 32 then (crossroadlaw01_AsciiTrims.j0 k a0 (Go.bits .and .i64 a1 7) (Go.bits .and .i64 a2 7) t153 true) else (crossroadlaw01_AsciiTrims.j0 k a0 (Go.bits .and .i64 a1 7) (Go.bits .and .i64 a2 7) t153 ((bt t153 (wrap64 ((t153.size : Int) - 1))) == 9))) else (none)) else (none)))) else (none)))) else (crossroadlaw01_AsciiTrims.j0 k a0 (Go.bits .and .i64 a1 7) (Go.bits .and .i64 a2 7) t153 true)))) else (some true)) = some r := H
    have A6 := Aside0.mk A60
    clear A60
    by_cases c7 : t152 = true
    · subst c7
      have H1 : ((ascii_Trim.f k a0).bind fun t153 => ((ascii_Trim.f k t153).bind fun t154 => (if t154.toList = t153.toList then (if (t153.size : Int) > (a0.size : Int) then (crossroadlaw01_AsciiTrims.j0 k a0 (Go.bits .and .i64 a1 7) (Go.bits .and .i64 a2 7) t153 true) else (if t153.toList = ([] : List UInt8) then (crossroadlaw01_AsciiTrims.j0 k a0 (Go.bits .and .i64 a1 7) (Go.bits .and .i64 a2 7) t153 false) else (if 0 < (t153.size : Int) then (if (bt t153 0) = 32 then (crossroadlaw01_AsciiTrims.j0 k a0 (Go.bits .and .i64 a1 7) (Go.bits .and .i64 a2 7) t153 true) else (if (bt t153 0) = 9 then (crossroadlaw01_AsciiTrims.j0 k a0 (Go.bits .and .i64 a1 7) (Go.bits .and .i64 a2 7) t153 true) else (if 0 ≤ (wrap64 ((t153.size : Int) - 1)) then (if (wrap64 ((t153.size : Int) - 1)) < (t153.size : Int) then (if (bt t153 (wrap64 ((t153.size : Int) - 1))) = 32 then (crossroadlaw01_AsciiTrims.j0 k a0 (Go.bits .and .i64 a1 7) (Go.bits .and .i64 a2 7) t153 true) else (crossroadlaw01_AsciiTrims.j0 k a0 (Go.bits .and .i64 a1 7) (Go.bits .and .i64 a2 7) t153 ((bt t153 (wrap64 ((t153.size : Int) - 1))) == 9))) else (none)) else (none)))) else (none)))) else (crossroadlaw01_AsciiTrims.j0 k a0 (Go.bits .and .i64 a1 7) (Go.bits .and .i64 a2 7) t153 true)))) = some r := by rw [if_pos rfl] at H; exact H
      clear H
      have H := H1
      clear H1
      replace H := Option.bind_eq_some_iff.mp H
      obtain ⟨t153, A80, H⟩ := H
      replace H : ((ascii_Trim.f k t153).bind fun t154 => (if t154.toList = t153.toList then (if (t153.size : Int) > (a0.size : Int) then (crossroadlaw01_AsciiTrims.j0 k a0 (Go.bits .and .i64 a1 7) (Go.bits .and .i64 a2 7) t153 true) else (if t153.toList = ([] : List UInt8) then (crossroadlaw01_AsciiTrims.j0 k a0 (Go.bits .and .i64 a1 7) (Go.bits .and .i64 a2 7) t153 false) else (if 0 < (t153.size : Int) then (if (bt t153 0) = 32 then (crossroadlaw01_AsciiTrims.j0 k a0 (Go.bits .and .i64 a1 7) (Go.bits .and .i64 a2 7) t153 true) else (if (bt t153 0) = 9 then (crossroadlaw01_AsciiTrims.j0 k a0 (Go.bits .and .i64 a1 7) (Go.bits .and .i64 a2 7) t153 true) else (if 0 ≤ (wrap64 ((t153.size : Int) - 1)) then (if (wrap64 ((t153.size : Int) - 1)) < (t153.size : Int) then (if (bt t153 (wrap64 ((t153.size : Int) - 1))) = 32 then (crossroadlaw01_AsciiTrims.j0 k a0 (Go.bits .and .i64 a1 7) (Go.bits .and .i64 a2 7) t153 true) else (crossroadlaw01_AsciiTrims.j0 k a0 (Go.bits .and .i64 a1 7) (Go.bits .and .i64 a2 7) t153 ((bt t153 (wrap64 ((t153.size : Int) - 1))) == 9))) else (none)) else (none)))) else (none)))) else (crossroadlaw01_AsciiTrims.j0 k a0 (Go.bits .and .i64 a1 7) (Go.bits .and .i64 a2 7) t153 true))) = some r := H
      have A8 := Aside0.mk A80
      clear A80
      have HC9 := Aside0.mk H
      clear H
      go_enter Try.func7, Try.ntmps7
      go_upto_region 7 with (first | (go_at_call 11; (with_reducible refine (crossroadlaw01_fit.calls k  true _ A4.out).mono ?_); rintro e w10 ⟨rfl, hb⟩; have n0_ := Aside0.mk (below_step (by repeat (first | (with_reducible first | exact HB.out | apply below_alloc | apply pw_below_drewN | apply below_drew1) | exact HB.out)) hb); clear HB; have HB := n0_; clear n0_; (try clear hb); (try clear hb2); (try clear hk); (try clear hi)) | (go_at_call 12; (with_reducible refine (crossroadlaw01_light.calls a0 true _ A6.out).mono ?_); rintro e w' ⟨rfl, ⟨nd, rfl⟩⟩; (try first | exact ⟨rfl, _, World.drewN_drewN _ _ _⟩ | exact ⟨rfl, _, Eq.trans (World.drewN_drewN _ _ _) (congrArg (World.drewN _) (Nat.add_assoc _ _ _))⟩)) | (go_at_call 16; (with_reducible refine (ascii_Trim.calls k a0 t153 _ A8.out).mono ?_); rintro e w' ⟨rfl, ⟨nd, rfl⟩⟩; (try first | exact ⟨rfl, _, World.drewN_drewN _ _ _⟩ | exact ⟨rfl, _, Eq.trans (World.drewN_drewN _ _ _) (congrArg (World.drewN _) (Nat.add_assoc _ _ _))⟩)))
      repeat (go_quiet (first | (go_at_call 11; (with_reducible refine (crossroadlaw01_fit.calls k  true _ A4.out).mono ?_); rintro e w10 ⟨rfl, hb⟩; have n0_ := Aside0.mk (below_step (by repeat (first | (with_reducible first | exact HB.out | apply below_alloc | apply pw_below_drewN | apply below_drew1) | exact HB.out)) hb); clear HB; have HB := n0_; clear n0_; (try clear hb); (try clear hb2); (try clear hk); (try clear hi)) | (go_at_call 12; (with_reducible refine (crossroadlaw01_light.calls a0 true _ A6.out).mono ?_); rintro e w' ⟨rfl, ⟨nd, rfl⟩⟩; (try first | exact ⟨rfl, _, World.drewN_drewN _ _ _⟩ | exact ⟨rfl, _, Eq.trans (World.drewN_drewN _ _ _) (congrArg (World.drewN _) (Nat.add_assoc _ _ _))⟩)) | (go_at_call 16; (with_reducible refine (ascii_Trim.calls k a0 t153 _ A8.out).mono ?_); rintro e w' ⟨rfl, ⟨nd, rfl⟩⟩; (try first | exact ⟨rfl, _, World.drewN_drewN _ _ _⟩ | exact ⟨rfl, _, Eq.trans (World.drewN_drewN _ _ _) (congrArg (World.drewN _) (Nat.add_assoc _ _ _))⟩))); go_upto_region 7 with (first | (go_at_call 11; (with_reducible refine (crossroadlaw01_fit.calls k  true _ A4.out).mono ?_); rintro e w10 ⟨rfl, hb⟩; have n0_ := Aside0.mk (below_step (by repeat (first | (with_reducible first | exact HB.out | apply below_alloc | apply pw_below_drewN | apply below_drew1) | exact HB.out)) hb); clear HB; have HB := n0_; clear n0_; (try clear hb); (try clear hb2); (try clear hk); (try clear hi)) | (go_at_call 12; (with_reducible refine (crossroadlaw01_light.calls a0 true _ A6.out).mono ?_); rintro e w' ⟨rfl, ⟨nd, rfl⟩⟩; (try first | exact ⟨rfl, _, World.drewN_drewN _ _ _⟩ | exact ⟨rfl, _, Eq.trans (World.drewN_drewN _ _ _) (congrArg (World.drewN _) (Nat.add_assoc _ _ _))⟩)) | (go_at_call 16; (with_reducible refine (ascii_Trim.calls k a0 t153 _ A8.out).mono ?_); rintro e w' ⟨rfl, ⟨nd, rfl⟩⟩; (try first | exact ⟨rfl, _, World.drewN_drewN _ _ _⟩ | exact ⟨rfl, _, Eq.trans (World.drewN_drewN _ _ _) (congrArg (World.drewN _) (Nat.add_assoc _ _ _))⟩))))
      (try simp only [Act.put, List.setIfInBounds_toArray, List.set_cons_zero, List.set_cons_succ])
      go_cut [61] (fun v61 wc => ∃ (kq : Nat) (x61_8 : Bool), v61 = .bool x61_8 ∧ Aside0 (crossroadlaw01_AsciiTrims.j0 kq a0 (Go.bits .and .i64 a1 7) (Go.bits .and .i64 a2 7) t153 x61_8 = some r) ∧ Aside0 (kq ≤ k) ∧ Aside0 (Below w.heap.size w wc))
      case first =>
        have H := HC9.out
        clear HC9
        replace H := Option.bind_eq_some_iff.mp H
        obtain ⟨t154, A110, H⟩ := H
        replace H : (if t154.toList = t153.toList then (if (t153.size : Int) > (a0.size : Int) then (crossroadlaw01_AsciiTrims.j0 k a0 (Go.bits .and .i64 a1 7) (Go.bits .and .i64 a2 7) t153 true) else (if t153.toList = ([] : List UInt8) then (crossroadlaw01_AsciiTrims.j0 k a0 (Go.bits .and .i64 a1 7) (Go.bits .and .i64 a2 7) t153 false) else (if 0 < (t153.size : Int) then (if (bt t153 0) = 32 then (crossroadlaw01_AsciiTrims.j0 k a0 (Go.bits .and .i64 a1 7) (Go.bits .and .i64 a2 7) t153 true) else (if (bt t153 0) = 9 then (crossroadlaw01_AsciiTrims.j0 k a0 (Go.bits .and .i64 a1 7) (Go.bits .and .i64 a2 7) t153 true) else (if 0 ≤ (wrap64 ((t153.size : Int) - 1)) then (if (wrap64 ((t153.size : Int) - 1)) < (t153.size : Int) then (if (bt t153 (wrap64 ((t153.size : Int) - 1))) = 32 then (crossroadlaw01_AsciiTrims.j0 k a0 (Go.bits .and .i64 a1 7) (Go.bits .and .i64 a2 7) t153 true) else (crossroadlaw01_AsciiTrims.j0 k a0 (Go.bits .and .i64 a1 7) (Go.bits .and .i64 a2 7) t153 ((bt t153 (wrap64 ((t153.size : Int) - 1))) == 9))) else (none)) else (none)))) else (none)))) else (crossroadlaw01_AsciiTrims.j0 k a0 (Go.bits .and .i64 a1 7) (Go.bits .and .i64 a2 7) t153 true)) = some r := H
        have A11 := Aside0.mk A110
        clear A110
        by_cases c12 : t154.toList = t153.toList
        · rw [if_pos c12] at H
          have c12b0 : (t154.toList == t153.toList) = true := beq_iff_eq.mpr c12
          have c12b1 : (t154.toList != t153.toList) = false := bne_eq_false_iff_eq.mpr c12
          clear c12
          (first | rw [c12b0] | (simp only [i64_w, i32_w]; rw [c12b0]) | skip)
          by_cases c13 : (t153.size : Int) > (a0.size : Int)
          · rw [if_pos c13] at H
            have c13b0 : decide ((a0.size : Int) < (t153.size : Int)) = true := decide_eq_true c13
            have c13b1 : decide (a0.size < t153.size) = true := decide_eq_true (Int.ofNat_lt.mp c13)
            clear c13
            have H' := Aside0.mk H
            clear H
            go_wp2_with (first | (go_at_call 16; (with_reducible refine (ascii_Trim.calls k t153 t154 _ A11.out).mono ?_); rintro e w' ⟨rfl, ⟨nd, rfl⟩⟩; (try first | exact ⟨rfl, _, World.drewN_drewN _ _ _⟩ | exact ⟨rfl, _, Eq.trans (World.drewN_drewN _ _ _) (congrArg (World.drewN _) (Nat.add_assoc _ _ _))⟩)))
            repeat (go_quiet (first | (go_at_call 16; (with_reducible refine (ascii_Trim.calls k t153 t154 _ A11.out).mono ?_); rintro e w' ⟨rfl, ⟨nd, rfl⟩⟩; (try first | exact ⟨rfl, _, World.drewN_drewN _ _ _⟩ | exact ⟨rfl, _, Eq.trans (World.drewN_drewN _ _ _) (congrArg (World.drewN _) (Nat.add_assoc _ _ _))⟩))); try go_wp2_with (first | (go_at_call 16; (with_reducible refine (ascii_Trim.calls k t153 t154 _ A11.out).mono ?_); rintro e w' ⟨rfl, ⟨nd, rfl⟩⟩; (try first | exact ⟨rfl, _, World.drewN_drewN _ _ _⟩ | exact ⟨rfl, _, Eq.trans (World.drewN_drewN _ _ _) (congrArg (World.drewN _) (Nat.add_assoc _ _ _))⟩))))
            go_meet
            case rel => exact ⟨_, (true), (by first | rfl | (simp; done) | (simp [*]; done)), H', ⟨by first | omega | exact Nat.le_refl _⟩, ⟨by repeat (first | (with_reducible first | exact HB.out | apply below_alloc | apply pw_below_drewN | apply below_drew1) | exact HB.out)⟩⟩
          · rw [if_neg c13] at H
            have c13b0 : decide ((a0.size : Int) < (t153.size : Int)) = false := decide_eq_false c13
            have c13b1 : decide (a0.size < t153.size) = false := decide_eq_false (fun h => c13 (Int.ofNat_lt.mpr h))
            clear c13
            by_cases c14 : t153.toList = ([] : List UInt8)
            · rw [if_pos c14] at H
              have c14b0 : (t153.toList == ([] : List UInt8)) = true := beq_iff_eq.mpr c14
              have c14b1 : (t153.toList != ([] : List UInt8)) = false := bne_eq_false_iff_eq.mpr c14
              clear c14
              have H' := Aside0.mk H
              clear H
              go_wp2_with (first | (go_at_call 16; (with_reducible refine (ascii_Trim.calls k t153 t154 _ A11.out).mono ?_); rintro e w' ⟨rfl, ⟨nd, rfl⟩⟩; (try first | exact ⟨rfl, _, World.drewN_drewN _ _ _⟩ | exact ⟨rfl, _, Eq.trans (World.drewN_drewN _ _ _) (congrArg (World.drewN _) (Nat.add_assoc _ _ _))⟩)))
              repeat (go_quiet (first | (go_at_call 16; (with_reducible refine (ascii_Trim.calls k t153 t154 _ A11.out).mono ?_); rintro e w' ⟨rfl, ⟨nd, rfl⟩⟩; (try first | exact ⟨rfl, _, World.drewN_drewN _ _ _⟩ | exact ⟨rfl, _, Eq.trans (World.drewN_drewN _ _ _) (congrArg (World.drewN _) (Nat.add_assoc _ _ _))⟩))); try go_wp2_with (first | (go_at_call 16; (with_reducible refine (ascii_Trim.calls k t153 t154 _ A11.out).mono ?_); rintro e w' ⟨rfl, ⟨nd, rfl⟩⟩; (try first | exact ⟨rfl, _, World.drewN_drewN _ _ _⟩ | exact ⟨rfl, _, Eq.trans (World.drewN_drewN _ _ _) (congrArg (World.drewN _) (Nat.add_assoc _ _ _))⟩))))
              go_meet
              case rel => exact ⟨_, (false), (by first | rfl | (simp; done) | (simp [*]; done)), H', ⟨by first | omega | exact Nat.le_refl _⟩, ⟨by repeat (first | (with_reducible first | exact HB.out | apply below_alloc | apply pw_below_drewN | apply below_drew1) | exact HB.out)⟩⟩
            · rw [if_neg c14] at H
              have c14b0 : (t153.toList == ([] : List UInt8)) = false := beq_eq_false_iff_ne.mpr c14
              have c14b1 : (t153.toList != ([] : List UInt8)) = true := bne_iff_ne.mpr c14
              by_cases c15 : 0 < (t153.size : Int)
              · rw [if_pos c15] at H
                have c15b0 : decide (0 < (t153.size : Int)) = true := decide_eq_true c15
                have c15b1 : decide (0 < t153.size) = true := decide_eq_true (by omega)
                clear c15
                by_cases c17 : (bt t153 0) = 32
                · rw [if_pos c17] at H
                  have c17b0 : ((bt t153 0) == 32) = true := beq_iff_eq.mpr c17
                  have c17b1 : ((bt t153 0) != 32) = false := bne_eq_false_iff_eq.mpr c17
                  clear c17
                  have H' := Aside0.mk H
                  clear H
                  go_wp2_with (first | (go_at_call 16; (with_reducible refine (ascii_Trim.calls k t153 t154 _ A11.out).mono ?_); rintro e w' ⟨rfl, ⟨nd, rfl⟩⟩; (try first | exact ⟨rfl, _, World.drewN_drewN _ _ _⟩ | exact ⟨rfl, _, Eq.trans (World.drewN_drewN _ _ _) (congrArg (World.drewN _) (Nat.add_assoc _ _ _))⟩); have p16 : 0 ≤ (0 : Int) := (by omega); have q16 : 0 < t153.size := (by have : (0 : Int) < (t153.size : Int) := of_decide_eq_true (by first | (with_reducible assumption) | assumption); omega); have hx16 : ∀ h : 0 < t153.size, ((t153[0]'h).toNat : Int) = bt t153 0 := bt_at t153 0; clear p16; have qi16 : (0 < (t153.size : Int)) = True := eq_true (of_decide_eq_true (by first | (with_reducible assumption) | assumption)); replace q16 := eq_true q16))
                  repeat (go_quiet (first | (go_at_call 16; (with_reducible refine (ascii_Trim.calls k t153 t154 _ A11.out).mono ?_); rintro e w' ⟨rfl, ⟨nd, rfl⟩⟩; (try first | exact ⟨rfl, _, World.drewN_drewN _ _ _⟩ | exact ⟨rfl, _, Eq.trans (World.drewN_drewN _ _ _) (congrArg (World.drewN _) (Nat.add_assoc _ _ _))⟩); have p16 : 0 ≤ (0 : Int) := (by omega); have q16 : 0 < t153.size := (by have : (0 : Int) < (t153.size : Int) := of_decide_eq_true (by first | (with_reducible assumption) | assumption); omega); have hx16 : ∀ h : 0 < t153.size, ((t153[0]'h).toNat : Int) = bt t153 0 := bt_at t153 0; clear p16; have qi16 : (0 < (t153.size : Int)) = True := eq_true (of_decide_eq_true (by first | (with_reducible assumption) | assumption)); replace q16 := eq_true q16)); try go_wp2_with (first | (go_at_call 16; (with_reducible refine (ascii_Trim.calls k t153 t154 _ A11.out).mono ?_); rintro e w' ⟨rfl, ⟨nd, rfl⟩⟩; (try first | exact ⟨rfl, _, World.drewN_drewN _ _ _⟩ | exact ⟨rfl, _, Eq.trans (World.drewN_drewN _ _ _) (congrArg (World.drewN _) (Nat.add_assoc _ _ _))⟩); have p16 : 0 ≤ (0 : Int) := (by omega); have q16 : 0 < t153.size := (by have : (0 : Int) < (t153.size : Int) := of_decide_eq_true (by first | (with_reducible assumption) | assumption); omega); have hx16 : ∀ h : 0 < t153.size, ((t153[0]'h).toNat : Int) = bt t153 0 := bt_at t153 0; clear p16; have qi16 : (0 < (t153.size : Int)) = True := eq_true (of_decide_eq_true (by first | (with_reducible assumption) | assumption)); replace q16 := eq_true q16)))
                  go_meet
                  case rel => exact ⟨_, (true), (by first | rfl | (simp; done) | (simp [*]; done)), H', ⟨by first | omega | exact Nat.le_refl _⟩, ⟨by repeat (first | (with_reducible first | exact HB.out | apply below_alloc | apply pw_below_drewN | apply below_drew1) | exact HB.out)⟩⟩
                · rw [if_neg c17] at H
                  have c17b0 : ((bt t153 0) == 32) = false := beq_eq_false_iff_ne.mpr c17
                  have c17b1 : ((bt t153 0) != 32) = true := bne_iff_ne.mpr c17
                  by_cases c19 : (bt t153 0) = 9
                  · rw [if_pos c19] at H
                    have c19b0 : ((bt t153 0) == 9) = true := beq_iff_eq.mpr c19
                    have c19b1 : ((bt t153 0) != 9) = false := bne_eq_false_iff_eq.mpr c19
                    clear c19
                    have H' := Aside0.mk H
                    clear H
                    go_wp2_with (first | (go_at_call 16; (with_reducible refine (ascii_Trim.calls k t153 t154 _ A11.out).mono ?_); rintro e w' ⟨rfl, ⟨nd, rfl⟩⟩; (try first | exact ⟨rfl, _, World.drewN_drewN _ _ _⟩ | exact ⟨rfl, _, Eq.trans (World.drewN_drewN _ _ _) (congrArg (World.drewN _) (Nat.add_assoc _ _ _))⟩); have p16 : 0 ≤ (0 : Int) := (by omega); have q16 : 0 < t153.size := (by have : (0 : Int) < (t153.size : Int) := of_decide_eq_true (by first | (with_reducible assumption) | assumption); omega); have hx16 : ∀ h : 0 < t153.size, ((t153[0]'h).toNat : Int) = bt t153 0 := bt_at t153 0; clear p16; have qi16 : (0 < (t153.size : Int)) = True := eq_true (of_decide_eq_true (by first | (with_reducible assumption) | assumption)); replace q16 := eq_true q16; have p18 : 0 ≤ (0 : Int) := (by omega); have q18 : 0 < t153.size := (by have : (0 : Int) < (t153.size : Int) := of_decide_eq_true (by first | (with_reducible assumption) | assumption); omega); have hx18 : ∀ h : 0 < t153.size, ((t153[0]'h).toNat : Int) = bt t153 0 := bt_at t153 0; clear p18; have qi18 : (0 < (t153.size : Int)) = True := eq_true (of_decide_eq_true (by first | (with_reducible assumption) | assumption)); replace q18 := eq_true q18))
                    repeat (go_quiet (first | (go_at_call 16; (with_reducible refine (ascii_Trim.calls k t153 t154 _ A11.out).mono ?_); rintro e w' ⟨rfl, ⟨nd, rfl⟩⟩; (try first | exact ⟨rfl, _, World.drewN_drewN _ _ _⟩ | exact ⟨rfl, _, Eq.trans (World.drewN_drewN _ _ _) (congrArg (World.drewN _) (Nat.add_assoc _ _ _))⟩); have p16 : 0 ≤ (0 : Int) := (by omega); have q16 : 0 < t153.size := (by have : (0 : Int) < (t153.size : Int) := of_decide_eq_true (by first | (with_reducible assumption) | assumption); omega); have hx16 : ∀ h : 0 < t153.size, ((t153[0]'h).toNat : Int) = bt t153 0 := bt_at t153 0; clear p16; have qi16 : (0 < (t153.size : Int)) = True := eq_true (of_decide_eq_true (by first | (with_reducible assumption) | assumption)); replace q16 := eq_true q16; have p18 : 0 ≤ (0 : Int) := (by omega); have q18 : 0 < t153.size := (by have : (0 : Int) < (t153.size : Int) := of_decide_eq_true (by first | (with_reducible assumption) | assumption); omega); have hx18 : ∀ h : 0 < t153.size, ((t153[0]'h).toNat : Int) = bt t153 0 := bt_at t153 0; clear p18; have qi18 : (0 < (t153.size : Int)) = True := eq_true (of_decide_eq_true (by first | (with_reducible assumption) | assumption)); replace q18 := eq_true q18)); try go_wp2_with (first | (go_at_call 16; (with_reducible refine (ascii_Trim.calls k t153 t154 _ A11.out).mono ?_); rintro e w' ⟨rfl, ⟨nd, rfl⟩⟩; (try first | exact ⟨rfl, _, World.drewN_drewN _ _ _⟩ | exact ⟨rfl, _, Eq.trans (World.drewN_drewN _ _ _) (congrArg (World.drewN _) (Nat.add_assoc _ _ _))⟩); have p16 : 0 ≤ (0 : Int) := (by omega); have q16 : 0 < t153.size := (by have : (0 : Int) < (t153.size : Int) := of_decide_eq_true (by first | (with_reducible assumption) | assumption); omega); have hx16 : ∀ h : 0 < t153.size, ((t153[0]'h).toNat : Int) = bt t153 0 := bt_at t153 0; clear p16; have qi16 : (0 < (t153.size : Int)) = True := eq_true (of_decide_eq_true (by first | (with_reducible assumption) | assumption)); replace q16 := eq_true q16; have p18 : 0 ≤ (0 : Int) := (by omega); have q18 : 0 < t153.size := (by have : (0 : Int) < (t153.size : Int) := of_decide_eq_true (by first | (with_reducible assumption) | assumption); omega); have hx18 : ∀ h : 0 < t153.size, ((t153[0]'h).toNat : Int) = bt t153 0 := bt_at t153 0; clear p18; have qi18 : (0 < (t153.size : Int)) = True := eq_true (of_decide_eq_true (by first | (with_reducible assumption) | assumption)); replace q18 := eq_true q18)))
                    go_meet
                    case rel => exact ⟨_, (true), (by first | rfl | (simp; done) | (simp [*]; done)), H', ⟨by first | omega | exact Nat.le_refl _⟩, ⟨by repeat (first | (with_reducible first | exact HB.out | apply below_alloc | apply pw_below_drewN | apply below_drew1) | exact HB.out)⟩⟩
                  · rw [if_neg c19] at H
                    have c19b0 : ((bt t153 0) == 9) = false := beq_eq_false_iff_ne.mpr c19
                    have c19b1 : ((bt t153 0) != 9) = true := bne_iff_ne.mpr c19
                    obtain ⟨ji20, hji20⟩ : ∃ j_ : Int, (wrap64 ((t153.size : Int) - 1)) = j_ := ⟨_, rfl⟩
                    replace H : (if 0 ≤ (ji20) then (if (ji20) < (t153.size : Int) then (if (bt t153 (ji20)) = 32 then (crossroadlaw01_AsciiTrims.j0 k a0 (Go.bits .and .i64 a1 7) (Go.bits .and .i64 a2 7) t153 true) else (crossroadlaw01_AsciiTrims.j0 k a0 (Go.bits .and .i64 a1 7) (Go.bits .and .i64 a2 7) t153 ((bt t153 (ji20)) == 9))) else (none)) else (none)) = some r := by first | (rw [hji20] at H; exact H) | (simp only [hji20] at H ⊢; exact H)
                    (try rw [hji20] at A11)
                    have hji20w : (IntKind.i64.wrap ((t153.size : Int) - 1)) = ji20 := (i64_w _).trans hji20
                    by_cases c21 : 0 ≤ (ji20)
                    · rw [if_pos c21] at H
                      have c21b0 : decide (0 ≤ (ji20)) = true := decide_eq_true c21
                      clear c21
                      by_cases c22 : (ji20) < (t153.size : Int)
                      · rw [if_pos c22] at H
                        have c22b0 : decide ((ji20) < (t153.size : Int)) = true := decide_eq_true c22
                        clear c22
                        by_cases c24 : (bt t153 (ji20)) = 32
                        · rw [if_pos c24] at H
                          have c24b0 : ((bt t153 (ji20)) == 32) = true := beq_iff_eq.mpr c24
                          have c24b1 : ((bt t153 (ji20)) != 32) = false := bne_eq_false_iff_eq.mpr c24
                          clear c24
                          have H' := Aside0.mk H
                          clear H
                          go_wp2_with (first | (go_at_call 16; (with_reducible refine (ascii_Trim.calls k t153 t154 _ A11.out).mono ?_); rintro e w' ⟨rfl, ⟨nd, rfl⟩⟩; (try first | exact ⟨rfl, _, World.drewN_drewN _ _ _⟩ | exact ⟨rfl, _, Eq.trans (World.drewN_drewN _ _ _) (congrArg (World.drewN _) (Nat.add_assoc _ _ _))⟩); have p16 : 0 ≤ (0 : Int) := (by omega); have q16 : 0 < t153.size := (by have : (0 : Int) < (t153.size : Int) := of_decide_eq_true (by first | (with_reducible assumption) | assumption); omega); have hx16 : ∀ h : 0 < t153.size, ((t153[0]'h).toNat : Int) = bt t153 0 := bt_at t153 0; clear p16; have qi16 : (0 < (t153.size : Int)) = True := eq_true (of_decide_eq_true (by first | (with_reducible assumption) | assumption)); replace q16 := eq_true q16; have p18 : 0 ≤ (0 : Int) := (by omega); have q18 : 0 < t153.size := (by have : (0 : Int) < (t153.size : Int) := of_decide_eq_true (by first | (with_reducible assumption) | assumption); omega); have hx18 : ∀ h : 0 < t153.size, ((t153[0]'h).toNat : Int) = bt t153 0 := bt_at t153 0; clear p18; have qi18 : (0 < (t153.size : Int)) = True := eq_true (of_decide_eq_true (by first | (with_reducible assumption) | assumption)); replace q18 := eq_true q18; have p23 : 0 ≤ ((ji20) : Int) := of_decide_eq_true (by first | (with_reducible assumption) | assumption); have q23 : (ji20) < (t153.size : Int) := of_decide_eq_true (by first | (with_reducible assumption) | assumption); have hx23 := bt_at t153 (ji20); replace p23 := eq_true p23; replace q23 := eq_true q23))
                          repeat (go_quiet (first | (go_at_call 16; (with_reducible refine (ascii_Trim.calls k t153 t154 _ A11.out).mono ?_); rintro e w' ⟨rfl, ⟨nd, rfl⟩⟩; (try first | exact ⟨rfl, _, World.drewN_drewN _ _ _⟩ | exact ⟨rfl, _, Eq.trans (World.drewN_drewN _ _ _) (congrArg (World.drewN _) (Nat.add_assoc _ _ _))⟩); have p16 : 0 ≤ (0 : Int) := (by omega); have q16 : 0 < t153.size := (by have : (0 : Int) < (t153.size : Int) := of_decide_eq_true (by first | (with_reducible assumption) | assumption); omega); have hx16 : ∀ h : 0 < t153.size, ((t153[0]'h).toNat : Int) = bt t153 0 := bt_at t153 0; clear p16; have qi16 : (0 < (t153.size : Int)) = True := eq_true (of_decide_eq_true (by first | (with_reducible assumption) | assumption)); replace q16 := eq_true q16; have p18 : 0 ≤ (0 : Int) := (by omega); have q18 : 0 < t153.size := (by have : (0 : Int) < (t153.size : Int) := of_decide_eq_true (by first | (with_reducible assumption) | assumption); omega); have hx18 : ∀ h : 0 < t153.size, ((t153[0]'h).toNat : Int) = bt t153 0 := bt_at t153 0; clear p18; have qi18 : (0 < (t153.size : Int)) = True := eq_true (of_decide_eq_true (by first | (with_reducible assumption) | assumption)); replace q18 := eq_true q18; have p23 : 0 ≤ ((ji20) : Int) := of_decide_eq_true (by first | (with_reducible assumption) | assumption); have q23 : (ji20) < (t153.size : Int) := of_decide_eq_true (by first | (with_reducible assumption) | assumption); have hx23 := bt_at t153 (ji20); replace p23 := eq_true p23; replace q23 := eq_true q23)); try go_wp2_with (first | (go_at_call 16; (with_reducible refine (ascii_Trim.calls k t153 t154 _ A11.out).mono ?_); rintro e w' ⟨rfl, ⟨nd, rfl⟩⟩; (try first | exact ⟨rfl, _, World.drewN_drewN _ _ _⟩ | exact ⟨rfl, _, Eq.trans (World.drewN_drewN _ _ _) (congrArg (World.drewN _) (Nat.add_assoc _ _ _))⟩); have p16 : 0 ≤ (0 : Int) := (by omega); have q16 : 0 < t153.size := (by have : (0 : Int) < (t153.size : Int) := of_decide_eq_true (by first | (with_reducible assumption) | assumption); omega); have hx16 : ∀ h : 0 < t153.size, ((t153[0]'h).toNat : Int) = bt t153 0 := bt_at t153 0; clear p16; have qi16 : (0 < (t153.size : Int)) = True := eq_true (of_decide_eq_true (by first | (with_reducible assumption) | assumption)); replace q16 := eq_true q16; have p18 : 0 ≤ (0 : Int) := (by omega); have q18 : 0 < t153.size := (by have : (0 : Int) < (t153.size : Int) := of_decide_eq_true (by first | (with_reducible assumption) | assumption); omega); have hx18 : ∀ h : 0 < t153.size, ((t153[0]'h).toNat : Int) = bt t153 0 := bt_at t153 0; clear p18; have qi18 : (0 < (t153.size : Int)) = True := eq_true (of_decide_eq_true (by first | (with_reducible assumption) | assumption)); replace q18 := eq_true q18; have p23 : 0 ≤ ((ji20) : Int) := of_decide_eq_true (by first | (with_reducible assumption) | assumption); have q23 : (ji20) < (t153.size : Int) := of_decide_eq_true (by first | (with_reducible assumption) | assumption); have hx23 := bt_at t153 (ji20); replace p23 := eq_true p23; replace q23 := eq_true q23)))
                          go_meet
                          case rel => exact ⟨_, (true), (by first | rfl | (simp; done) | (simp [*]; done)), H', ⟨by first | omega | exact Nat.le_refl _⟩, ⟨by repeat (first | (with_reducible first | exact HB.out | apply below_alloc | apply pw_below_drewN | apply below_drew1) | exact HB.out)⟩⟩
                        · rw [if_neg c24] at H
                          have c24b0 : ((bt t153 (ji20)) == 32) = false := beq_eq_false_iff_ne.mpr c24
                          have c24b1 : ((bt t153 (ji20)) != 32) = true := bne_iff_ne.mpr c24
                          have H' := Aside0.mk H
                          clear H
                          go_wp2_with (first | (go_at_call 16; (with_reducible refine (ascii_Trim.calls k t153 t154 _ A11.out).mono ?_); rintro e w' ⟨rfl, ⟨nd, rfl⟩⟩; (try first | exact ⟨rfl, _, World.drewN_drewN _ _ _⟩ | exact ⟨rfl, _, Eq.trans (World.drewN_drewN _ _ _) (congrArg (World.drewN _) (Nat.add_assoc _ _ _))⟩); have p16 : 0 ≤ (0 : Int) := (by omega); have q16 : 0 < t153.size := (by have : (0 : Int) < (t153.size : Int) := of_decide_eq_true (by first | (with_reducible assumption) | assumption); omega); have hx16 : ∀ h : 0 < t153.size, ((t153[0]'h).toNat : Int) = bt t153 0 := bt_at t153 0; clear p16; have qi16 : (0 < (t153.size : Int)) = True := eq_true (of_decide_eq_true (by first | (with_reducible assumption) | assumption)); replace q16 := eq_true q16; have p18 : 0 ≤ (0 : Int) := (by omega); have q18 : 0 < t153.size := (by have : (0 : Int) < (t153.size : Int) := of_decide_eq_true (by first | (with_reducible assumption) | assumption); omega); have hx18 : ∀ h : 0 < t153.size, ((t153[0]'h).toNat : Int) = bt t153 0 := bt_at t153 0; clear p18; have qi18 : (0 < (t153.size : Int)) = True := eq_true (of_decide_eq_true (by first | (with_reducible assumption) | assumption)); replace q18 := eq_true q18; have p23 : 0 ≤ ((ji20) : Int) := of_decide_eq_true (by first | (with_reducible assumption) | assumption); have q23 : (ji20) < (t153.size : Int) := of_decide_eq_true (by first | (with_reducible assumption) | assumption); have hx23 := bt_at t153 (ji20); replace p23 := eq_true p23; replace q23 := eq_true q23; have p25 : 0 ≤ ((ji20) : Int) := of_decide_eq_true (by first | (with_reducible assumption) | assumption); have q25 : (ji20) < (t153.size : Int) := of_decide_eq_true (by first | (with_reducible assumption) | assumption); have hx25 := bt_at t153 (ji20); replace p25 := eq_true p25; replace q25 := eq_true q25))
                          repeat (go_quiet (first | (go_at_call 16; (with_reducible refine (ascii_Trim.calls k t153 t154 _ A11.out).mono ?_); rintro e w' ⟨rfl, ⟨nd, rfl⟩⟩; (try first | exact ⟨rfl, _, World.drewN_drewN _ _ _⟩ | exact ⟨rfl, _, Eq.trans (World.drewN_drewN _ _ _) (congrArg (World.drewN _) (Nat.add_assoc _ _ _))⟩); have p16 : 0 ≤ (0 : Int) := (by omega); have q16 : 0 < t153.size := (by have : (0 : Int) < (t153.size : Int) := of_decide_eq_true (by first | (with_reducible assumption) | assumption); omega); have hx16 : ∀ h : 0 < t153.size, ((t153[0]'h).toNat : Int) = bt t153 0 := bt_at t153 0; clear p16; have qi16 : (0 < (t153.size : Int)) = True := eq_true (of_decide_eq_true (by first | (with_reducible assumption) | assumption)); replace q16 := eq_true q16; have p18 : 0 ≤ (0 : Int) := (by omega); have q18 : 0 < t153.size := (by have : (0 : Int) < (t153.size : Int) := of_decide_eq_true (by first | (with_reducible assumption) | assumption); omega); have hx18 : ∀ h : 0 < t153.size, ((t153[0]'h).toNat : Int) = bt t153 0 := bt_at t153 0; clear p18; have qi18 : (0 < (t153.size : Int)) = True := eq_true (of_decide_eq_true (by first | (with_reducible assumption) | assumption)); replace q18 := eq_true q18; have p23 : 0 ≤ ((ji20) : Int) := of_decide_eq_true (by first | (with_reducible assumption) | assumption); have q23 : (ji20) < (t153.size : Int) := of_decide_eq_true (by first | (with_reducible assumption) | assumption); have hx23 := bt_at t153 (ji20); replace p23 := eq_true p23; replace q23 := eq_true q23; have p25 : 0 ≤ ((ji20) : Int) := of_decide_eq_true (by first | (with_reducible assumption) | assumption); have q25 : (ji20) < (t153.size : Int) := of_decide_eq_true (by first | (with_reducible assumption) | assumption); have hx25 := bt_at t153 (ji20); replace p25 := eq_true p25; replace q25 := eq_true q25)); try go_wp2_with (first | (go_at_call 16; (with_reducible refine (ascii_Trim.calls k t153 t154 _ A11.out).mono ?_); rintro e w' ⟨rfl, ⟨nd, rfl⟩⟩; (try first | exact ⟨rfl, _, World.drewN_drewN _ _ _⟩ | exact ⟨rfl, _, Eq.trans (World.drewN_drewN _ _ _) (congrArg (World.drewN _) (Nat.add_assoc _ _ _))⟩); have p16 : 0 ≤ (0 : Int) := (by omega); have q16 : 0 < t153.size := (by have : (0 : Int) < (t153.size : Int) := of_decide_eq_true (by first | (with_reducible assumption) | assumption); omega); have hx16 : ∀ h : 0 < t153.size, ((t153[0]'h).toNat : Int) = bt t153 0 := bt_at t153 0; clear p16; have qi16 : (0 < (t153.size : Int)) = True := eq_true (of_decide_eq_true (by first | (with_reducible assumption) | assumption)); replace q16 := eq_true q16; have p18 : 0 ≤ (0 : Int) := (by omega); have q18 : 0 < t153.size := (by have : (0 : Int) < (t153.size : Int) := of_decide_eq_true (by first | (with_reducible assumption) | assumption); omega); have hx18 : ∀ h : 0 < t153.size, ((t153[0]'h).toNat : Int) = bt t153 0 := bt_at t153 0; clear p18; have qi18 : (0 < (t153.size : Int)) = True := eq_true (of_decide_eq_true (by first | (with_reducible assumption) | assumption)); replace q18 := eq_true q18; have p23 : 0 ≤ ((ji20) : Int) := of_decide_eq_true (by first | (with_reducible assumption) | assumption); have q23 : (ji20) < (t153.size : Int) := of_decide_eq_true (by first | (with_reducible assumption) | assumption); have hx23 := bt_at t153 (ji20); replace p23 := eq_true p23; replace q23 := eq_true q23; have p25 : 0 ≤ ((ji20) : Int) := of_decide_eq_true (by first | (with_reducible assumption) | assumption); have q25 : (ji20) < (t153.size : Int) := of_decide_eq_true (by first | (with_reducible assumption) | assumption); have hx25 := bt_at t153 (ji20); replace p25 := eq_true p25; replace q25 := eq_true q25)))
                          go_meet
                          case rel => exact ⟨_, (((bt t153 (ji20)) == 9)), (by first | rfl | (simp; done) | (simp only [← hji20] <;> (first | rfl | simp)) | (simp [*]; done)), H', ⟨by first | omega | exact Nat.le_refl _⟩, ⟨by repeat (first | (with_reducible first | exact HB.out | apply below_alloc | apply pw_below_drewN | apply below_drew1) | exact HB.out)⟩⟩
                      · rw [if_neg c22] at H
                        exact absurd H (by simp)
                    · rw [if_neg c21] at H
                      exact absurd H (by simp)
              · rw [if_neg c15] at H
                exact absurd H (by simp)
        · rw [if_neg c12] at H
          have c12b0 : (t154.toList == t153.toList) = false := beq_eq_false_iff_ne.mpr c12
          have c12b1 : (t154.toList != t153.toList) = true := bne_iff_ne.mpr c12
          (first | rw [c12b0] | (simp only [i64_w, i32_w]; rw [c12b0]) | skip)
          have H' := Aside0.mk H
          clear H
          go_wp2_with (first | (go_at_call 16; (with_reducible refine (ascii_Trim.calls k t153 t154 _ A11.out).mono ?_); rintro e w' ⟨rfl, ⟨nd, rfl⟩⟩; (try first | exact ⟨rfl, _, World.drewN_drewN _ _ _⟩ | exact ⟨rfl, _, Eq.trans (World.drewN_drewN _ _ _) (congrArg (World.drewN _) (Nat.add_assoc _ _ _))⟩)))
          repeat (go_quiet (first | (go_at_call 16; (with_reducible refine (ascii_Trim.calls k t153 t154 _ A11.out).mono ?_); rintro e w' ⟨rfl, ⟨nd, rfl⟩⟩; (try first | exact ⟨rfl, _, World.drewN_drewN _ _ _⟩ | exact ⟨rfl, _, Eq.trans (World.drewN_drewN _ _ _) (congrArg (World.drewN _) (Nat.add_assoc _ _ _))⟩))); try go_wp2_with (first | (go_at_call 16; (with_reducible refine (ascii_Trim.calls k t153 t154 _ A11.out).mono ?_); rintro e w' ⟨rfl, ⟨nd, rfl⟩⟩; (try first | exact ⟨rfl, _, World.drewN_drewN _ _ _⟩ | exact ⟨rfl, _, Eq.trans (World.drewN_drewN _ _ _) (congrArg (World.drewN _) (Nat.add_assoc _ _ _))⟩))))
          go_meet
          case rel => exact ⟨_, (true), (by first | rfl | (simp; done) | (simp [*]; done)), H', ⟨by first | omega | exact Nat.le_refl _⟩, ⟨by repeat (first | (with_reducible first | exact HB.out | apply below_alloc | apply pw_below_drewN | apply below_drew1) | exact HB.out)⟩⟩
      case rest =>
        clear HC9
        try clear c1
        try clear p1
        try clear q1
        try clear hx1
        try clear qi1
        try clear c2
        try clear p2
        try clear q2
        try clear hx2
        try clear c5
        try clear p6
        try clear c7
        try clear c12
        try clear c12b0
        try clear c12b1
        try clear c13
        try clear c13b0
        try clear c13b1
        try clear c14
        try clear c14b0
        try clear c14b1
        try clear c15
        try clear c15b0
        try clear c15b1
        try clear p16
        try clear q16
        try clear hx16
        try clear qi16
        try clear c17
        try clear c17b0
        try clear c17b1
        try clear p18
        try clear q18
        try clear hx18
        try clear qi18
        try clear c19
        try clear c19b0
        try clear c19b1
        try clear c21
        try clear c21b0
        try clear c22
        try clear c22b0
        try clear p23
        try clear q23
        try clear hx23
        try clear c24
        try clear c24b0
        try clear c24b1
        try clear p25
        try clear q25
        try clear hx25
        try clear p16
        try clear p18
        try clear p23
        try clear p25
        try clear q16
        try clear q18
        try clear q23
        try clear q25
        obtain ⟨kq, x61_8, rfl, HA, HJ8, HB⟩ := hcut
        cases kq with
        | zero => exact absurd HA.out (by simp [crossroadlaw01_AsciiTrims.j0])
        | succ kj8 =>
          have H := HA.out
          clear HA
          simp only [crossroadlaw01_AsciiTrims.j0] at H
          by_cases c26 : x61_8 = true
          · subst c26
            have H1 : (some false) = some r := by rw [if_pos rfl] at H; exact H
            clear H
            have H := H1
            clear H1
            obtain rfl := Option.some.inj H
            go_wp2
            repeat (go_quiet (fail); try go_wp2)
            go_ret
            exact ⟨by first | rfl | (simp [errW_none, errW_some] <;> rfl) | (simp [*, errW_none, errW_some] <;> rfl), by repeat (first | (with_reducible first | exact HB.out | apply below_alloc | apply pw_below_drewN | apply below_drew1) | exact HB.out)⟩
          · replace c26 := Bool.eq_false_iff.mpr c26
            subst c26
            have H1 : (crossroadlaw01_AsciiTrims.l0 kj8 a0 (Go.bits .and .i64 a1 7) (Go.bits .and .i64 a2 7) t153 true (a0.size : Int) 0) = some r := by rw [if_neg (show ¬ (false = true) by decide)] at H; exact H
            clear H
            have H := H1
            clear H1
            have H' := Aside0.mk H
            clear H
            go_wp2
            repeat (go_quiet (fail); try go_wp2)
            go_loopg [8, 64] kj8 (fun kq v8 v64 w' => ∃ (x8_2 : Bool) (x64_2 : Int), v8 = .bool x8_2 ∧ v64 = .int .i64 x64_2 ∧ Aside0 (crossroadlaw01_AsciiTrims.l0 kq a0 (Go.bits .and .i64 a1 7) (Go.bits .and .i64 a2 7) t153 x8_2 (a0.size : Int) x64_2 = some r) ∧ Aside0 (kq ≤ kj8) ∧ Aside0 (Below w.heap.size w w'))
            case atStart => exact ⟨(true), (0), (by first | rfl | (simp; done) | (simp [*]; done)), (by first | rfl | (simp; done) | (simp [*]; done)), H', ⟨Nat.le_refl _⟩, ⟨by repeat (first | (with_reducible first | exact HB.out | apply below_alloc | apply pw_below_drewN | apply below_drew1) | exact HB.out)⟩⟩
            case round =>
              clear H'
              try clear c1
              try clear p1
              try clear q1
              try clear hx1
              try clear qi1
              try clear c2
              try clear p2
              try clear q2
              try clear hx2
              try clear c5
              try clear p6
              try clear c7
              try clear c12
              try clear c12b0
              try clear c12b1
              try clear c13
              try clear c13b0
              try clear c13b1
              try clear c14
              try clear c14b0
              try clear c14b1
              try clear c15
              try clear c15b0
              try clear c15b1
              try clear p16
              try clear q16
              try clear hx16
              try clear qi16
              try clear c17
              try clear c17b0
              try clear c17b1
              try clear p18
              try clear q18
              try clear hx18
              try clear qi18
              try clear c19
              try clear c19b0
              try clear c19b1
              try clear c21
              try clear c21b0
              try clear c22
              try clear c22b0
              try clear p23
              try clear q23
              try clear hx23
              try clear c24
              try clear c24b0
              try clear c24b1
              try clear p25
              try clear q25
              try clear hx25
              try clear c26
              try clear p1
              try clear p16
              try clear p18
              try clear p2
              try clear p23
              try clear p25
              try clear p6
              try clear q1
              try clear q16
              try clear q18
              try clear q2
              try clear q23
              try clear q25
              obtain ⟨x8_2, x64_2, rfl, rfl, HA, HK2, HB⟩ := hrel
              cases gk with
              | zero => exact absurd HA.out (by simp [crossroadlaw01_AsciiTrims.l0])
              | succ k2 =>
                have H := HA.out
                clear HA
                simp only [crossroadlaw01_AsciiTrims.l0] at H
                by_cases c27 : x64_2 < (a0.size : Int)
                · rw [if_pos c27] at H
                  have c27b0 : decide (x64_2 < (a0.size : Int)) = true := decide_eq_true c27
                  clear c27
                  by_cases c28 : x8_2 = true
                  · subst c28
                    have H1 : (if 0 ≤ x64_2 then (if x64_2 < (a0.size : Int) then (if (bt a0 x64_2) = 32 then (crossroadlaw01_AsciiTrims.l0 k2 a0 (Go.bits .and .i64 a1 7) (Go.bits .and .i64 a2 7) t153 true (a0.size : Int) (wrap64 (x64_2 + 1))) else (crossroadlaw01_AsciiTrims.l0 k2 a0 (Go.bits .and .i64 a1 7) (Go.bits .and .i64 a2 7) t153 ((bt a0 x64_2) == 9) (a0.size : Int) (wrap64 (x64_2 + 1)))) else (none)) else (none)) = some r := by rw [if_pos rfl] at H; exact H
                    clear H
                    have H := H1
                    clear H1
                    by_cases c29 : 0 ≤ x64_2
                    · rw [if_pos c29] at H
                      have c29b0 : decide (0 ≤ x64_2) = true := decide_eq_true c29
                      clear c29
                      by_cases c30 : x64_2 < (a0.size : Int)
                      · rw [if_pos c30] at H
                        have c30b0 : decide (x64_2 < (a0.size : Int)) = true := decide_eq_true c30
                        clear c30
                        by_cases c32 : (bt a0 x64_2) = 32
                        · rw [if_pos c32] at H
                          have c32b0 : ((bt a0 x64_2) == 32) = true := beq_iff_eq.mpr c32
                          have c32b1 : ((bt a0 x64_2) != 32) = false := bne_eq_false_iff_eq.mpr c32
                          clear c32
                          have H' := Aside0.mk H
                          clear H
                          have p31 : 0 ≤ (x64_2 : Int) := of_decide_eq_true (by first | (with_reducible assumption) | assumption)
                          have q31 : x64_2 < (a0.size : Int) := of_decide_eq_true (by first | (with_reducible assumption) | assumption)
                          have hx31 := bt_at a0 x64_2
                          replace p31 := eq_true p31
                          replace q31 := eq_true q31
                          go_wp2
                          repeat (go_quiet (fail); try go_wp2)
                          go_roundg k2
                          case measure => have := HJ8.out; have := HK2.out; omega
                          case rel => exact ⟨(true), (wrap64 (x64_2 + 1)), (by first | rfl | (simp; done) | (simp [*]; done)), (by first | rfl | (simp; done) | (simp [*]; done)), H', ⟨by have := HJ8.out; have := HK2.out; omega⟩, ⟨by repeat (first | (with_reducible first | exact HB.out | apply below_alloc | apply pw_below_drewN | apply below_drew1) | exact HB.out)⟩⟩
                        · rw [if_neg c32] at H
                          have c32b0 : ((bt a0 x64_2) == 32) = false := beq_eq_false_iff_ne.mpr c32
                          have c32b1 : ((bt a0 x64_2) != 32) = true := bne_iff_ne.mpr c32
                          have H' := Aside0.mk H
                          clear H
                          have p31 : 0 ≤ (x64_2 : Int) := of_decide_eq_true (by first | (with_reducible assumption) | assumption)
                          have q31 : x64_2 < (a0.size : Int) := of_decide_eq_true (by first | (with_reducible assumption) | assumption)
                          have hx31 := bt_at a0 x64_2
                          replace p31 := eq_true p31
                          replace q31 := eq_true q31
                          have p33 : 0 ≤ (x64_2 : Int) := of_decide_eq_true (by first | (with_reducible assumption) | assumption)
                          have q33 : x64_2 < (a0.size : Int) := of_decide_eq_true (by first | (with_reducible assumption) | assumption)
                          have hx33 := bt_at a0 x64_2
                          replace p33 := eq_true p33
                          replace q33 := eq_true q33
                          go_wp2
                          repeat (go_quiet (fail); try go_wp2)
                          go_roundg k2
                          case measure => have := HJ8.out; have := HK2.out; omega
                          case rel => exact ⟨(((bt a0 x64_2) == 9)), (wrap64 (x64_2 + 1)), (by first | rfl | (simp; done) | (simp [*]; done)), (by first | rfl | (simp; done) | (simp [*]; done)), H', ⟨by have := HJ8.out; have := HK2.out; omega⟩, ⟨by repeat (first | (with_reducible first | exact HB.out | apply below_alloc | apply pw_below_drewN | apply below_drew1) | exact HB.out)⟩⟩
                      · rw [if_neg c30] at H
                        exact absurd H (by simp)
                    · rw [if_neg c29] at H
                      exact absurd H (by simp)
                  · replace c28 := Bool.eq_false_iff.mpr c28
                    subst c28
                    have H1 : (crossroadlaw01_AsciiTrims.l0 k2 a0 (Go.bits .and .i64 a1 7) (Go.bits .and .i64 a2 7) t153 false (a0.size : Int) (wrap64 (x64_2 + 1))) = some r := by rw [if_neg (show ¬ (false = true) by decide)] at H; exact H
                    clear H
                    have H := H1
                    clear H1
                    have H' := Aside0.mk H
                    clear H
                    go_wp2
                    repeat (go_quiet (fail); try go_wp2)
                    go_roundg k2
                    case measure => have := HJ8.out; have := HK2.out; omega
                    case rel => exact ⟨(false), (wrap64 (x64_2 + 1)), (by first | rfl | (simp; done) | (simp [*]; done)), (by first | rfl | (simp; done) | (simp [*]; done)), H', ⟨by have := HJ8.out; have := HK2.out; omega⟩, ⟨by repeat (first | (with_reducible first | exact HB.out | apply below_alloc | apply pw_below_drewN | apply below_drew1) | exact HB.out)⟩⟩
                · rw [if_neg c27] at H
                  have c27b0 : decide (x64_2 < (a0.size : Int)) = false := decide_eq_false c27
                  clear c27
                  by_cases c34 : ((t153.toList.isEmpty) == x8_2) = true
                  · rw [if_pos c34] at H
                    have c34b0 : ((t153.toList.isEmpty) == x8_2) = true := c34
                    (try (have c34b1 : decide ((t153.toList.isEmpty) = x8_2) = true := by simpa using c34))
                    (try (have c34b2 : ((t153.toList.isEmpty) == x8_2) = true := by simpa using c34))
                    clear c34
                    by_cases c35 : 0 ≤ (Go.bits .and .i64 a1 7)
                    · rw [if_pos c35] at H
                      have c35b0 := eq_true c35
                      have c35b1 : decide (0 ≤ (Go.bits .and .i64 a1 7)) = true := decide_eq_true c35
                      clear c35
                      by_cases c36 : (Go.bits .and .i64 a1 7) ≤ 8
                      · rw [if_pos c36] at H
                        have c36b0 := eq_true c36
                        have c36b1 : decide ((Go.bits .and .i64 a1 7) ≤ 8) = true := decide_eq_true c36
                        clear c36
                        by_cases c37 : ((⟨#[9, 32, 32, 32, 32, 32, 32, 32]⟩ : ByteArray).extract 0 ((Go.bits .and .i64 a1 7) : Int).toNat).size + a0.size ≤ 9223372036854775807
                        · rw [if_pos c37] at H
                          have c37b0 := eq_true c37
                          have c37b1 : decide (((⟨#[9, 32, 32, 32, 32, 32, 32, 32]⟩ : ByteArray).extract 0 ((Go.bits .and .i64 a1 7) : Int).toNat).size + a0.size ≤ 9223372036854775807) = true := decide_eq_true c37
                          try have c37b2 : (9223372036854775807 < ((⟨#[9, 32, 32, 32, 32, 32, 32, 32]⟩ : ByteArray).extract 0 ((Go.bits .and .i64 a1 7) : Int).toNat).size + a0.size) = False := eq_false (Nat.not_lt.2 c37)
                          by_cases c38 : 0 ≤ (Go.bits .and .i64 a2 7)
                          · rw [if_pos c38] at H
                            have c38b0 := eq_true c38
                            have c38b1 : decide (0 ≤ (Go.bits .and .i64 a2 7)) = true := decide_eq_true c38
                            clear c38
                            by_cases c39 : (Go.bits .and .i64 a2 7) ≤ 8
                            · rw [if_pos c39] at H
                              have c39b0 := eq_true c39
                              have c39b1 : decide ((Go.bits .and .i64 a2 7) ≤ 8) = true := decide_eq_true c39
                              clear c39
                              by_cases c40 : (((⟨#[9, 32, 32, 32, 32, 32, 32, 32]⟩ : ByteArray).extract 0 ((Go.bits .and .i64 a1 7) : Int).toNat) ++ a0).size + ((⟨#[32, 32, 9, 32, 32, 32, 32, 32]⟩ : ByteArray).extract 0 ((Go.bits .and .i64 a2 7) : Int).toNat).size ≤ 9223372036854775807
                              · rw [if_pos c40] at H
                                have c40b0 := eq_true c40
                                have c40b1 : decide ((((⟨#[9, 32, 32, 32, 32, 32, 32, 32]⟩ : ByteArray).extract 0 ((Go.bits .and .i64 a1 7) : Int).toNat) ++ a0).size + ((⟨#[32, 32, 9, 32, 32, 32, 32, 32]⟩ : ByteArray).extract 0 ((Go.bits .and .i64 a2 7) : Int).toNat).size ≤ 9223372036854775807) = true := decide_eq_true c40
                                try have c40b2 : (9223372036854775807 < (((⟨#[9, 32, 32, 32, 32, 32, 32, 32]⟩ : ByteArray).extract 0 ((Go.bits .and .i64 a1 7) : Int).toNat) ++ a0).size + ((⟨#[32, 32, 9, 32, 32, 32, 32, 32]⟩ : ByteArray).extract 0 ((Go.bits .and .i64 a2 7) : Int).toNat).size) = False := eq_false (Nat.not_lt.2 c40)
                                replace H := Option.bind_eq_some_iff.mp H
                                obtain ⟨t155, A410, H⟩ := H
                                replace H : (some (t155.toList == t153.toList)) = some r := H
                                have A41 := Aside0.mk A410
                                clear A410
                                obtain rfl := Option.some.inj H
                                go_wp2_with (first | (go_at_call 16; (with_reducible refine (ascii_Trim.calls k2 ((((⟨#[9, 32, 32, 32, 32, 32, 32, 32]⟩ : ByteArray).extract 0 ((Go.bits .and .i64 a1 7) : Int).toNat) ++ a0) ++ ((⟨#[32, 32, 9, 32, 32, 32, 32, 32]⟩ : ByteArray).extract 0 ((Go.bits .and .i64 a2 7) : Int).toNat)) t155 _ A41.out).mono ?_); rintro e w' ⟨rfl, ⟨nd, rfl⟩⟩; (try first | exact ⟨rfl, _, World.drewN_drewN _ _ _⟩ | exact ⟨rfl, _, Eq.trans (World.drewN_drewN _ _ _) (congrArg (World.drewN _) (Nat.add_assoc _ _ _))⟩)))
                                repeat (go_quiet (first | (go_at_call 16; (with_reducible refine (ascii_Trim.calls k2 ((((⟨#[9, 32, 32, 32, 32, 32, 32, 32]⟩ : ByteArray).extract 0 ((Go.bits .and .i64 a1 7) : Int).toNat) ++ a0) ++ ((⟨#[32, 32, 9, 32, 32, 32, 32, 32]⟩ : ByteArray).extract 0 ((Go.bits .and .i64 a2 7) : Int).toNat)) t155 _ A41.out).mono ?_); rintro e w' ⟨rfl, ⟨nd, rfl⟩⟩; (try first | exact ⟨rfl, _, World.drewN_drewN _ _ _⟩ | exact ⟨rfl, _, Eq.trans (World.drewN_drewN _ _ _) (congrArg (World.drewN _) (Nat.add_assoc _ _ _))⟩))); try go_wp2_with (first | (go_at_call 16; (with_reducible refine (ascii_Trim.calls k2 ((((⟨#[9, 32, 32, 32, 32, 32, 32, 32]⟩ : ByteArray).extract 0 ((Go.bits .and .i64 a1 7) : Int).toNat) ++ a0) ++ ((⟨#[32, 32, 9, 32, 32, 32, 32, 32]⟩ : ByteArray).extract 0 ((Go.bits .and .i64 a2 7) : Int).toNat)) t155 _ A41.out).mono ?_); rintro e w' ⟨rfl, ⟨nd, rfl⟩⟩; (try first | exact ⟨rfl, _, World.drewN_drewN _ _ _⟩ | exact ⟨rfl, _, Eq.trans (World.drewN_drewN _ _ _) (congrArg (World.drewN _) (Nat.add_assoc _ _ _))⟩))))
                                go_ret
                                exact ⟨by first | rfl | (simp [errW_none, errW_some] <;> rfl) | (simp [*, errW_none, errW_some] <;> rfl), by repeat (first | (with_reducible first | exact HB.out | apply below_alloc | apply pw_below_drewN | apply below_drew1) | exact HB.out)⟩
                              · rw [if_neg c40] at H
                                exact absurd H (by simp)
                            · rw [if_neg c39] at H
                              exact absurd H (by simp)
                          · rw [if_neg c38] at H
                            exact absurd H (by simp)
                        · rw [if_neg c37] at H
                          exact absurd H (by simp)
                      · rw [if_neg c36] at H
                        exact absurd H (by simp)
                    · rw [if_neg c35] at H
                      exact absurd H (by simp)
                  · rw [if_neg c34] at H
                    have c34b0 : ((t153.toList.isEmpty) == x8_2) = false := by simpa using c34
                    (try (have c34b1 : decide ((t153.toList.isEmpty) = x8_2) = false := by simpa using c34))
                    (try (have c34b2 : ((t153.toList.isEmpty) == x8_2) = false := by simpa using c34))
                    (try (have c34b3 : ¬ ((t153.toList.isEmpty) = x8_2) := by simpa using c34))
                    clear c34
                    obtain rfl := Option.some.inj H
                    go_wp2
                    repeat (go_quiet (fail); try go_wp2)
                    go_ret
                    exact ⟨by first | rfl | (simp [errW_none, errW_some] <;> rfl) | (simp [*, errW_none, errW_some] <;> rfl), by repeat (first | (with_reducible first | exact HB.out | apply below_alloc | apply pw_below_drewN | apply below_drew1) | exact HB.out)⟩
    · replace c7 := Bool.eq_false_iff.mpr c7
      subst c7
      have H1 : (some true) = some r := by rw [if_neg (show ¬ (false = true) by decide)] at H; exact H
      clear H
      have H := H1
      clear H1
      obtain rfl := Option.some.inj H
      go_enter Try.func7, Try.ntmps7
      go_wp2_with (first | (go_at_call 11; (with_reducible refine (crossroadlaw01_fit.calls k  true _ A4.out).mono ?_); rintro e w42 ⟨rfl, hb⟩; have n0_ := Aside0.mk (below_step (by repeat (first | (with_reducible first | exact HB.out | apply below_alloc | apply pw_below_drewN | apply below_drew1) | exact HB.out)) hb); clear HB; have HB := n0_; clear n0_; (try clear hb); (try clear hb2); (try clear hk); (try clear hi)) | (go_at_call 12; (with_reducible refine (crossroadlaw01_light.calls a0 false _ A6.out).mono ?_); rintro e w' ⟨rfl, ⟨nd, rfl⟩⟩; (try first | exact ⟨rfl, _, World.drewN_drewN _ _ _⟩ | exact ⟨rfl, _, Eq.trans (World.drewN_drewN _ _ _) (congrArg (World.drewN _) (Nat.add_assoc _ _ _))⟩)))
      repeat (go_quiet (first | (go_at_call 11; (with_reducible refine (crossroadlaw01_fit.calls k  true _ A4.out).mono ?_); rintro e w42 ⟨rfl, hb⟩; have n0_ := Aside0.mk (below_step (by repeat (first | (with_reducible first | exact HB.out | apply below_alloc | apply pw_below_drewN | apply below_drew1) | exact HB.out)) hb); clear HB; have HB := n0_; clear n0_; (try clear hb); (try clear hb2); (try clear hk); (try clear hi)) | (go_at_call 12; (with_reducible refine (crossroadlaw01_light.calls a0 false _ A6.out).mono ?_); rintro e w' ⟨rfl, ⟨nd, rfl⟩⟩; (try first | exact ⟨rfl, _, World.drewN_drewN _ _ _⟩ | exact ⟨rfl, _, Eq.trans (World.drewN_drewN _ _ _) (congrArg (World.drewN _) (Nat.add_assoc _ _ _))⟩))); try go_wp2_with (first | (go_at_call 11; (with_reducible refine (crossroadlaw01_fit.calls k  true _ A4.out).mono ?_); rintro e w42 ⟨rfl, hb⟩; have n0_ := Aside0.mk (below_step (by repeat (first | (with_reducible first | exact HB.out | apply below_alloc | apply pw_below_drewN | apply below_drew1) | exact HB.out)) hb); clear HB; have HB := n0_; clear n0_; (try clear hb); (try clear hb2); (try clear hk); (try clear hi)) | (go_at_call 12; (with_reducible refine (crossroadlaw01_light.calls a0 false _ A6.out).mono ?_); rintro e w' ⟨rfl, ⟨nd, rfl⟩⟩; (try first | exact ⟨rfl, _, World.drewN_drewN _ _ _⟩ | exact ⟨rfl, _, Eq.trans (World.drewN_drewN _ _ _) (congrArg (World.drewN _) (Nat.add_assoc _ _ _))⟩))))
      go_ret
      exact ⟨by first | rfl | (simp [errW_none, errW_some] <;> rfl) | (simp [*, errW_none, errW_some] <;> rfl), by repeat (first | (with_reducible first | exact HB.out | apply below_alloc | apply pw_below_drewN | apply below_drew1) | exact HB.out)⟩
  · replace c5 := Bool.eq_false_iff.mpr c5
    subst c5
    have H1 : (some false) = some r := by rw [if_neg (show ¬ (false = true) by decide)] at H; exact H
    clear H
    have H := H1
    clear H1
    obtain rfl := Option.some.inj H
    go_enter Try.func7, Try.ntmps7
    go_wp2_with (first | (go_at_call 11; (with_reducible refine (crossroadlaw01_fit.calls k  false _ A4.out).mono ?_); rintro e w43 ⟨rfl, hb⟩; have n0_ := Aside0.mk (below_step (by repeat (first | (with_reducible first | exact HB.out | apply below_alloc | apply pw_below_drewN | apply below_drew1) | exact HB.out)) hb); clear HB; have HB := n0_; clear n0_; (try clear hb); (try clear hb2); (try clear hk); (try clear hi)))
    repeat (go_quiet (first | (go_at_call 11; (with_reducible refine (crossroadlaw01_fit.calls k  false _ A4.out).mono ?_); rintro e w43 ⟨rfl, hb⟩; have n0_ := Aside0.mk (below_step (by repeat (first | (with_reducible first | exact HB.out | apply below_alloc | apply pw_below_drewN | apply below_drew1) | exact HB.out)) hb); clear HB; have HB := n0_; clear n0_; (try clear hb); (try clear hb2); (try clear hk); (try clear hi))); try go_wp2_with (first | (go_at_call 11; (with_reducible refine (crossroadlaw01_fit.calls k  false _ A4.out).mono ?_); rintro e w43 ⟨rfl, hb⟩; have n0_ := Aside0.mk (below_step (by repeat (first | (with_reducible first | exact HB.out | apply below_alloc | apply pw_below_drewN | apply below_drew1) | exact HB.out)) hb); clear HB; have HB := n0_; clear n0_; (try clear hb); (try clear hb2); (try clear hk); (try clear hi))))
    go_ret
    exact ⟨by first | rfl | (simp [errW_none, errW_some] <;> rfl) | (simp [*, errW_none, errW_some] <;> rfl), by repeat (first | (with_reducible first | exact HB.out | apply below_alloc | apply pw_below_drewN | apply below_drew1) | exact HB.out)⟩

/-- THE ONE PURE STATEMENT of crossroadlaw01_AsciiTrims: yours. -/
def crossroadlaw01_AsciiTrims.Pure : Prop := ∀ (a0 : ByteArray) (a1 : Int) (a2 : Int), a0.size ≤ 140737488351232 → (Lit.int .i64 a1).wf = true → (Lit.int .i64 a2).wf = true → ∃ k, crossroadlaw01_AsciiTrims.f k a0 a1 a2 = some true
theorem crossroadlaw01_AsciiTrims.walk (P : crossroadlaw01_AsciiTrims.Pure) (a0 : ByteArray) (a1 : Int) (a2 : Int) (w : World) (w0 : a0.size ≤ 140737488351232) (w1 : (Lit.int .i64 a1).wf = true) (w2 : (Lit.int .i64 a2).wf = true) :
    Calls Try.prog 7 #[.string a0, .int .i64 a1, .int .i64 a2] w fun e w' => e = .returned (.bool true) ∧ Below w.heap.size w w' := by
  obtain ⟨k, h⟩ := P a0 a1 a2 w0 w1 w2
  refine (crossroadlaw01_AsciiTrims.calls k a0 a1 a2 true w h).mono ?_
  rintro e w' ⟨rfl, hd⟩
  exact ⟨rfl, hd⟩

end Go.Proofs.Ytlkknhojfhbopaa.X

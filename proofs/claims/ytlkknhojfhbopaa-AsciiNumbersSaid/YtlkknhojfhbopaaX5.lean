-- Written for this claim by a program of this session (wip/xprint.py). Not trusted: Lean checks it.
import Derived.Test.YtlkknhojfhbopaaX0
import Derived.Test.YtlkknhojfhbopaaX2
import Derived.Test.YtlkknhojfhbopaaX3
namespace Go.Proofs.Ytlkknhojfhbopaa.X
open Go.RowKit Go.Proofs.YtlkknhojfhbopaaW.PrintWords Go.Proofs.YtlkknhojfhbopaaW.PrintLast Go.Proofs.YtlkknhojfhbopaaW.PrintMore
attribute [local go_sem] max2_int min2_int max_two min_two max_three min_three max_four min_four   -- for this text's walks alone
set_option linter.unusedVariables false
set_option linter.unusedSimpArgs false

/-! ### crossroadlaw01_AsciiNumbers: function 4 -/
mutual
def crossroadlaw01_AsciiNumbers.j0 : Nat → ByteArray → Int → Option (Bool)
  | 0, _, _ => none
  | k + 1, x0, x5 => if x0.size ≤ 9223372036854775807 then ((some (bytesOf x0 : List Int)).bind fun y130 => (crossroadlaw01_AsciiNumbers.l0 k x0 x5 (!x0.toList.isEmpty) 0 y130 (y130.length : Int) 0)) else (none)
def crossroadlaw01_AsciiNumbers.l0 : Nat → ByteArray → Int → Bool → Int → List Int → Int → Int → Option (Bool)
  | 0, _, _, _, _, _, _, _ => none
  | k + 1, x0, x5, x6, x7, x22, x23, x24 => if x24 < x23 then (if 0 ≤ x24 then (if x24 < (x22.length : Int) then (if (rd x22 x24) ≥ 48 then (crossroadlaw01_AsciiNumbers.j2 k x0 x5 x6 x7 (rd x22 x24) 99 x22 x23 x24 (decide ((rd x22 x24) ≤ 57))) else (crossroadlaw01_AsciiNumbers.j2 k x0 x5 x6 x7 (rd x22 x24) 99 x22 x23 x24 false)) else (none)) else (none)) else ((ascii_Number.f k x0 x5).bind fun bt133 => (if (bt133.2 == x6) = true then (if x6 = true then (if bt133.1 = x7 then (some true) else (some false)) else (some (bt133.1 == 0))) else (some false)))
def crossroadlaw01_AsciiNumbers.j2 : Nat → ByteArray → Int → Bool → Int → Int → Int → List Int → Int → Int → Bool → Option (Bool)
  | 0, _, _, _, _, _, _, _, _, _, _ => none
  | k + 1, x0, x5, x6, x7, x9, x10, x22, x23, x24, x28 => if x28 = true then (if x6 = true then (if (wrap64 ((wrap64 (x7 * x5)) + ((x9 - 48) % 256))) > 1073741824 then (crossroadlaw01_AsciiNumbers.l0 k x0 x5 false 0 x22 x23 (wrap64 (x24 + 1))) else (crossroadlaw01_AsciiNumbers.l0 k x0 x5 (decide (((x9 - 48) % 256) < x5)) (wrap64 ((wrap64 (x7 * x5)) + ((x9 - 48) % 256))) x22 x23 (wrap64 (x24 + 1)))) else (if (wrap64 ((wrap64 (x7 * x5)) + ((x9 - 48) % 256))) > 1073741824 then (crossroadlaw01_AsciiNumbers.l0 k x0 x5 false 0 x22 x23 (wrap64 (x24 + 1))) else (crossroadlaw01_AsciiNumbers.l0 k x0 x5 false (wrap64 ((wrap64 (x7 * x5)) + ((x9 - 48) % 256))) x22 x23 (wrap64 (x24 + 1))))) else (if x9 ≥ 97 then (crossroadlaw01_AsciiNumbers.j3 k x0 x5 x6 x7 x9 x10 x22 x23 x24 (decide (x9 ≤ 102))) else (crossroadlaw01_AsciiNumbers.j3 k x0 x5 x6 x7 x9 x10 x22 x23 x24 false))
def crossroadlaw01_AsciiNumbers.j3 : Nat → ByteArray → Int → Bool → Int → Int → Int → List Int → Int → Int → Bool → Option (Bool)
  | 0, _, _, _, _, _, _, _, _, _, _ => none
  | k + 1, x0, x5, x6, x7, x9, x10, x22, x23, x24, x38 => if x38 = true then (if x6 = true then (if (wrap64 ((wrap64 (x7 * x5)) + (((x9 - 97) % 256) + 10))) > 1073741824 then (crossroadlaw01_AsciiNumbers.l0 k x0 x5 false 0 x22 x23 (wrap64 (x24 + 1))) else (crossroadlaw01_AsciiNumbers.l0 k x0 x5 (decide ((((x9 - 97) % 256) + 10) < x5)) (wrap64 ((wrap64 (x7 * x5)) + (((x9 - 97) % 256) + 10))) x22 x23 (wrap64 (x24 + 1)))) else (if (wrap64 ((wrap64 (x7 * x5)) + (((x9 - 97) % 256) + 10))) > 1073741824 then (crossroadlaw01_AsciiNumbers.l0 k x0 x5 false 0 x22 x23 (wrap64 (x24 + 1))) else (crossroadlaw01_AsciiNumbers.l0 k x0 x5 false (wrap64 ((wrap64 (x7 * x5)) + (((x9 - 97) % 256) + 10))) x22 x23 (wrap64 (x24 + 1))))) else (if x9 ≥ 65 then (crossroadlaw01_AsciiNumbers.j4 k x0 x5 x6 x7 x9 x10 x22 x23 x24 (decide (x9 ≤ 70))) else (crossroadlaw01_AsciiNumbers.j4 k x0 x5 x6 x7 x9 x10 x22 x23 x24 false))
def crossroadlaw01_AsciiNumbers.j4 : Nat → ByteArray → Int → Bool → Int → Int → Int → List Int → Int → Int → Bool → Option (Bool)
  | 0, _, _, _, _, _, _, _, _, _, _ => none
  | k + 1, x0, x5, x6, x7, x9, x10, x22, x23, x24, x49 => if x49 = true then (if x6 = true then (if (wrap64 ((wrap64 (x7 * x5)) + (((x9 - 65) % 256) + 10))) > 1073741824 then (crossroadlaw01_AsciiNumbers.l0 k x0 x5 false 0 x22 x23 (wrap64 (x24 + 1))) else (crossroadlaw01_AsciiNumbers.l0 k x0 x5 (decide ((((x9 - 65) % 256) + 10) < x5)) (wrap64 ((wrap64 (x7 * x5)) + (((x9 - 65) % 256) + 10))) x22 x23 (wrap64 (x24 + 1)))) else (if (wrap64 ((wrap64 (x7 * x5)) + (((x9 - 65) % 256) + 10))) > 1073741824 then (crossroadlaw01_AsciiNumbers.l0 k x0 x5 false 0 x22 x23 (wrap64 (x24 + 1))) else (crossroadlaw01_AsciiNumbers.l0 k x0 x5 false (wrap64 ((wrap64 (x7 * x5)) + (((x9 - 65) % 256) + 10))) x22 x23 (wrap64 (x24 + 1))))) else (if x6 = true then (if (wrap64 ((wrap64 (x7 * x5)) + x10)) > 1073741824 then (crossroadlaw01_AsciiNumbers.l0 k x0 x5 false 0 x22 x23 (wrap64 (x24 + 1))) else (crossroadlaw01_AsciiNumbers.l0 k x0 x5 (decide (x10 < x5)) (wrap64 ((wrap64 (x7 * x5)) + x10)) x22 x23 (wrap64 (x24 + 1)))) else (if (wrap64 ((wrap64 (x7 * x5)) + x10)) > 1073741824 then (crossroadlaw01_AsciiNumbers.l0 k x0 x5 false 0 x22 x23 (wrap64 (x24 + 1))) else (crossroadlaw01_AsciiNumbers.l0 k x0 x5 false (wrap64 ((wrap64 (x7 * x5)) + x10)) x22 x23 (wrap64 (x24 + 1)))))
end
def crossroadlaw01_AsciiNumbers.f (k : Nat) (a0 : ByteArray) (a1 : Bool) : Option (Bool) := (crossroadlaw01_fit.f k).bind fun t128 => (if t128 = true then ((crossroadlaw01_light.f a0).bind fun t129 => (if t129 = true then (if a1 = true then (crossroadlaw01_AsciiNumbers.j0 k a0 16) else (crossroadlaw01_AsciiNumbers.j0 k a0 10)) else (some true))) else (some false))
theorem crossroadlaw01_AsciiNumbers.mono_l : ∀ k, (∀ y0 y1, LeO (crossroadlaw01_AsciiNumbers.j0 k y0 y1) (crossroadlaw01_AsciiNumbers.j0 (k + 1) y0 y1)) ∧ (∀ y0 y1 y2 y3 y4 y5 y6, LeO (crossroadlaw01_AsciiNumbers.l0 k y0 y1 y2 y3 y4 y5 y6) (crossroadlaw01_AsciiNumbers.l0 (k + 1) y0 y1 y2 y3 y4 y5 y6)) ∧ (∀ y0 y1 y2 y3 y4 y5 y6 y7 y8 y9, LeO (crossroadlaw01_AsciiNumbers.j2 k y0 y1 y2 y3 y4 y5 y6 y7 y8 y9) (crossroadlaw01_AsciiNumbers.j2 (k + 1) y0 y1 y2 y3 y4 y5 y6 y7 y8 y9)) ∧ (∀ y0 y1 y2 y3 y4 y5 y6 y7 y8 y9, LeO (crossroadlaw01_AsciiNumbers.j3 k y0 y1 y2 y3 y4 y5 y6 y7 y8 y9) (crossroadlaw01_AsciiNumbers.j3 (k + 1) y0 y1 y2 y3 y4 y5 y6 y7 y8 y9)) ∧ (∀ y0 y1 y2 y3 y4 y5 y6 y7 y8 y9, LeO (crossroadlaw01_AsciiNumbers.j4 k y0 y1 y2 y3 y4 y5 y6 y7 y8 y9) (crossroadlaw01_AsciiNumbers.j4 (k + 1) y0 y1 y2 y3 y4 y5 y6 y7 y8 y9))
  | 0 => ⟨fun _ _ r h => by simp [crossroadlaw01_AsciiNumbers.j0] at h, fun _ _ _ _ _ _ _ r h => by simp [crossroadlaw01_AsciiNumbers.l0] at h, fun _ _ _ _ _ _ _ _ _ _ r h => by simp [crossroadlaw01_AsciiNumbers.j2] at h, fun _ _ _ _ _ _ _ _ _ _ r h => by simp [crossroadlaw01_AsciiNumbers.j3] at h, fun _ _ _ _ _ _ _ _ _ _ r h => by simp [crossroadlaw01_AsciiNumbers.j4] at h⟩
  | k + 1 => by
    obtain ⟨ih0, ih1, ih2, ih3, ih4⟩ := crossroadlaw01_AsciiNumbers.mono_l k
    refine ⟨?_, ?_, ?_, ?_, ?_⟩
    · intro y0 y1
      unfold crossroadlaw01_AsciiNumbers.j0
      repeat' first
      | (with_reducible exact ih0 _ _)
      | (with_reducible exact ih1 _ _ _ _ _ _ _)
      | (with_reducible exact ih2 _ _ _ _ _ _ _ _ _ _)
      | (with_reducible exact ih3 _ _ _ _ _ _ _ _ _ _)
      | (with_reducible exact ih4 _ _ _ _ _ _ _ _ _ _)
      | (with_reducible exact ascii_Number.mono _ _ _)
      | (with_reducible exact crossroadlaw01_fit.mono _)
      | (with_reducible exact LeO.refl _)
      | (with_reducible exact LeO.none _)
      | (with_reducible refine LeO.ite ?_ ?_)
      | (with_reducible refine LeO.bind ?_ (fun _ => ?_))
      | exact ih0 _ _
      | exact ih1 _ _ _ _ _ _ _
      | exact ih2 _ _ _ _ _ _ _ _ _ _
      | exact ih3 _ _ _ _ _ _ _ _ _ _
      | exact ih4 _ _ _ _ _ _ _ _ _ _
      | exact ascii_Number.mono _ _ _
      | exact crossroadlaw01_fit.mono _
      | exact LeO.none _
      | refine LeO.ite ?_ ?_
      | refine LeO.bind ?_ (fun _ => ?_)
    · intro y0 y1 y2 y3 y4 y5 y6
      unfold crossroadlaw01_AsciiNumbers.l0
      repeat' first
      | (with_reducible exact ih0 _ _)
      | (with_reducible exact ih1 _ _ _ _ _ _ _)
      | (with_reducible exact ih2 _ _ _ _ _ _ _ _ _ _)
      | (with_reducible exact ih3 _ _ _ _ _ _ _ _ _ _)
      | (with_reducible exact ih4 _ _ _ _ _ _ _ _ _ _)
      | (with_reducible exact ascii_Number.mono _ _ _)
      | (with_reducible exact crossroadlaw01_fit.mono _)
      | (with_reducible exact LeO.refl _)
      | (with_reducible exact LeO.none _)
      | (with_reducible refine LeO.ite ?_ ?_)
      | (with_reducible refine LeO.bind ?_ (fun _ => ?_))
      | exact ih0 _ _
      | exact ih1 _ _ _ _ _ _ _
      | exact ih2 _ _ _ _ _ _ _ _ _ _
      | exact ih3 _ _ _ _ _ _ _ _ _ _
      | exact ih4 _ _ _ _ _ _ _ _ _ _
      | exact ascii_Number.mono _ _ _
      | exact crossroadlaw01_fit.mono _
      | exact LeO.none _
      | refine LeO.ite ?_ ?_
      | refine LeO.bind ?_ (fun _ => ?_)
    · intro y0 y1 y2 y3 y4 y5 y6 y7 y8 y9
      unfold crossroadlaw01_AsciiNumbers.j2
      repeat' first
      | (with_reducible exact ih0 _ _)
      | (with_reducible exact ih1 _ _ _ _ _ _ _)
      | (with_reducible exact ih2 _ _ _ _ _ _ _ _ _ _)
      | (with_reducible exact ih3 _ _ _ _ _ _ _ _ _ _)
      | (with_reducible exact ih4 _ _ _ _ _ _ _ _ _ _)
      | (with_reducible exact ascii_Number.mono _ _ _)
      | (with_reducible exact crossroadlaw01_fit.mono _)
      | (with_reducible exact LeO.refl _)
      | (with_reducible exact LeO.none _)
      | (with_reducible refine LeO.ite ?_ ?_)
      | (with_reducible refine LeO.bind ?_ (fun _ => ?_))
      | exact ih0 _ _
      | exact ih1 _ _ _ _ _ _ _
      | exact ih2 _ _ _ _ _ _ _ _ _ _
      | exact ih3 _ _ _ _ _ _ _ _ _ _
      | exact ih4 _ _ _ _ _ _ _ _ _ _
      | exact ascii_Number.mono _ _ _
      | exact crossroadlaw01_fit.mono _
      | exact LeO.none _
      | refine LeO.ite ?_ ?_
      | refine LeO.bind ?_ (fun _ => ?_)
    · intro y0 y1 y2 y3 y4 y5 y6 y7 y8 y9
      unfold crossroadlaw01_AsciiNumbers.j3
      repeat' first
      | (with_reducible exact ih0 _ _)
      | (with_reducible exact ih1 _ _ _ _ _ _ _)
      | (with_reducible exact ih2 _ _ _ _ _ _ _ _ _ _)
      | (with_reducible exact ih3 _ _ _ _ _ _ _ _ _ _)
      | (with_reducible exact ih4 _ _ _ _ _ _ _ _ _ _)
      | (with_reducible exact ascii_Number.mono _ _ _)
      | (with_reducible exact crossroadlaw01_fit.mono _)
      | (with_reducible exact LeO.refl _)
      | (with_reducible exact LeO.none _)
      | (with_reducible refine LeO.ite ?_ ?_)
      | (with_reducible refine LeO.bind ?_ (fun _ => ?_))
      | exact ih0 _ _
      | exact ih1 _ _ _ _ _ _ _
      | exact ih2 _ _ _ _ _ _ _ _ _ _
      | exact ih3 _ _ _ _ _ _ _ _ _ _
      | exact ih4 _ _ _ _ _ _ _ _ _ _
      | exact ascii_Number.mono _ _ _
      | exact crossroadlaw01_fit.mono _
      | exact LeO.none _
      | refine LeO.ite ?_ ?_
      | refine LeO.bind ?_ (fun _ => ?_)
    · intro y0 y1 y2 y3 y4 y5 y6 y7 y8 y9
      unfold crossroadlaw01_AsciiNumbers.j4
      repeat' first
      | (with_reducible exact ih0 _ _)
      | (with_reducible exact ih1 _ _ _ _ _ _ _)
      | (with_reducible exact ih2 _ _ _ _ _ _ _ _ _ _)
      | (with_reducible exact ih3 _ _ _ _ _ _ _ _ _ _)
      | (with_reducible exact ih4 _ _ _ _ _ _ _ _ _ _)
      | (with_reducible exact ascii_Number.mono _ _ _)
      | (with_reducible exact crossroadlaw01_fit.mono _)
      | (with_reducible exact LeO.refl _)
      | (with_reducible exact LeO.none _)
      | (with_reducible refine LeO.ite ?_ ?_)
      | (with_reducible refine LeO.bind ?_ (fun _ => ?_))
      | exact ih0 _ _
      | exact ih1 _ _ _ _ _ _ _
      | exact ih2 _ _ _ _ _ _ _ _ _ _
      | exact ih3 _ _ _ _ _ _ _ _ _ _
      | exact ih4 _ _ _ _ _ _ _ _ _ _
      | exact ascii_Number.mono _ _ _
      | exact crossroadlaw01_fit.mono _
      | exact LeO.none _
      | refine LeO.ite ?_ ?_
      | refine LeO.bind ?_ (fun _ => ?_)
theorem crossroadlaw01_AsciiNumbers.mono : ∀ a0 a1 k, LeO (crossroadlaw01_AsciiNumbers.f k a0 a1) (crossroadlaw01_AsciiNumbers.f (k + 1) a0 a1) := by
  intro a0 a1 k
  obtain ⟨ih0, ih1, ih2, ih3, ih4⟩ := crossroadlaw01_AsciiNumbers.mono_l k
  unfold crossroadlaw01_AsciiNumbers.f
  repeat' first
      | (with_reducible exact ih0 _ _)
      | (with_reducible exact ih1 _ _ _ _ _ _ _)
      | (with_reducible exact ih2 _ _ _ _ _ _ _ _ _ _)
      | (with_reducible exact ih3 _ _ _ _ _ _ _ _ _ _)
      | (with_reducible exact ih4 _ _ _ _ _ _ _ _ _ _)
      | (with_reducible exact ascii_Number.mono _ _ _)
      | (with_reducible exact crossroadlaw01_fit.mono _)
      | (with_reducible exact LeO.refl _)
      | (with_reducible exact LeO.none _)
      | (with_reducible refine LeO.ite ?_ ?_)
      | (with_reducible refine LeO.bind ?_ (fun _ => ?_))
      | exact ih0 _ _
      | exact ih1 _ _ _ _ _ _ _
      | exact ih2 _ _ _ _ _ _ _ _ _ _
      | exact ih3 _ _ _ _ _ _ _ _ _ _
      | exact ih4 _ _ _ _ _ _ _ _ _ _
      | exact ascii_Number.mono _ _ _
      | exact crossroadlaw01_fit.mono _
      | exact LeO.none _
      | refine LeO.ite ?_ ?_
      | refine LeO.bind ?_ (fun _ => ?_)
set_option maxHeartbeats 8000000 in
set_option maxRecDepth 100000 in
theorem crossroadlaw01_AsciiNumbers.calls (k : Nat) (a0 : ByteArray) (a1 : Bool) (r : Bool) (w : World) (h : crossroadlaw01_AsciiNumbers.f k a0 a1 = some r) :
    Calls Try.prog 4 #[.string a0, .bool a1] w fun e w' => e = .returned (.bool r) ∧ Below w.heap.size w w' := by
  have HB := Aside0.mk (Below.refl w.heap.size w)
  have H : ((crossroadlaw01_fit.f k).bind fun t128 => (if t128 = true then ((crossroadlaw01_light.f a0).bind fun t129 => (if t129 = true then (if a1 = true then (crossroadlaw01_AsciiNumbers.j0 k a0 16) else (crossroadlaw01_AsciiNumbers.j0 k a0 10)) else (some true))) else (some false))) = some r := h
  clear h
  replace H := Option.bind_eq_some_iff.mp H
  obtain ⟨t128, A30, H⟩ := H
  replace H : (if t128 = true then ((crossroadlaw01_light.f a0).bind fun t129 => (if t129 = true then (if a1 = true then (crossroadlaw01_AsciiNumbers.j0 k a0 16) else (crossroadlaw01_AsciiNumbers.j0 k a0 10)) else (some true))) else (some false)) = some r := H
  have A3 := Aside0.mk A30
  clear A30
  by_cases c4 : t128 = true
  · subst c4
    have H1 : ((crossroadlaw01_light.f a0).bind fun t129 => (if t129 = true then (if a1 = true then (crossroadlaw01_AsciiNumbers.j0 k a0 16) else (crossroadlaw01_AsciiNumbers.j0 k a0 10)) else (some true))) = some r := by rw [if_pos rfl] at H; exact H
    clear H
    have H := H1
    clear H1
    replace H := Option.bind_eq_some_iff.mp H
    obtain ⟨t129, A50, H⟩ := H
    replace H : (if t129 = true then (if a1 = true then (crossroadlaw01_AsciiNumbers.j0 k a0 16) else (crossroadlaw01_AsciiNumbers.j0 k a0 10)) else (some true)) = some r := H
    have A5 := Aside0.mk A50
    clear A50
    by_cases c6 : t129 = true
    · subst c6
      have H1 : (if a1 = true then (crossroadlaw01_AsciiNumbers.j0 k a0 16) else (crossroadlaw01_AsciiNumbers.j0 k a0 10)) = some r := by rw [if_pos rfl] at H; exact H
      clear H
      have H := H1
      clear H1
      have HC7 := Aside0.mk H
      clear H
      go_enter Try.func4, Try.ntmps4
      go_upto_if 18 with (first | ((with_reducible refine gate_callee (f := 11) rfl ?_); refine goesL_ (some 13) rfl rfl Try.func11 (by kernel_rfl) rfl #[] rfl (by (try simp only [List.map_toArray, List.map_cons, List.map_nil]); first | done | rfl | (simp only [List.length_drop, List.length_take]; rfl)) ?_; (with_reducible refine (crossroadlaw01_fit.calls k  true _ A3.out).mono ?_); rintro e w8 ⟨rfl, hb⟩; refine ⟨_, rfl, ?_⟩; have n0_ := Aside0.mk (below_step (by repeat (first | (with_reducible first | exact HB.out | apply below_alloc | apply pw_below_drewN | apply below_drew1) | exact HB.out)) hb); clear HB; have HB := n0_; clear n0_; (try clear hb); (try clear hb2); (try clear hk); (try clear hi)) | ((with_reducible refine gate_callee (f := 12) rfl ?_); refine goesL_ (some 16) rfl rfl Try.func12 (by kernel_rfl) rfl #[.string a0] rfl (by (try simp only [List.map_toArray, List.map_cons, List.map_nil]); first | done | rfl | (simp only [List.length_drop, List.length_take]; rfl)) ?_; (with_reducible refine (crossroadlaw01_light.calls a0 true _ A5.out).mono ?_); rintro e w' ⟨rfl, ⟨nd, rfl⟩⟩; refine ⟨_, rfl, ?_⟩))
      (try simp only [Act.put, List.setIfInBounds_toArray, List.set_cons_zero, List.set_cons_succ])
      go_cut [5] (fun v5 wc => ∃ (kq : Nat) (x5_6 : Int), v5 = .int .i64 x5_6 ∧ Aside0 (crossroadlaw01_AsciiNumbers.j0 kq a0 x5_6 = some r) ∧ Aside0 (kq ≤ k) ∧ Aside0 (Below w.heap.size w wc))
      case first =>
        have H := HC7.out
        clear HC7
        by_cases c9 : a1 = true
        · subst c9
          have H1 : (crossroadlaw01_AsciiNumbers.j0 k a0 16) = some r := by rw [if_pos rfl] at H; exact H
          clear H
          have H := H1
          clear H1
          have H' := Aside0.mk H
          clear H
          go_wp2
          go_meet
          case rel => exact ⟨_, (16), (by first | rfl | (simp; done) | (simp [*]; done)), H', ⟨by first | omega | exact Nat.le_refl _⟩, ⟨by repeat (first | (with_reducible first | exact HB.out | apply below_alloc | apply pw_below_drewN | apply below_drew1) | exact HB.out)⟩⟩
        · replace c9 := Bool.eq_false_iff.mpr c9
          subst c9
          have H1 : (crossroadlaw01_AsciiNumbers.j0 k a0 10) = some r := by rw [if_neg (show ¬ (false = true) by decide)] at H; exact H
          clear H
          have H := H1
          clear H1
          have H' := Aside0.mk H
          clear H
          go_wp2
          go_meet
          case rel => exact ⟨_, (10), (by first | rfl | (simp; done) | (simp [*]; done)), H', ⟨by first | omega | exact Nat.le_refl _⟩, ⟨by repeat (first | (with_reducible first | exact HB.out | apply below_alloc | apply pw_below_drewN | apply below_drew1) | exact HB.out)⟩⟩
      case rest =>
        clear HC7
        try clear c1
        try clear p2
        try clear c4
        try clear c6
        try clear c9
        obtain ⟨kq, x5_6, rfl, HA, HJ6, HB⟩ := hcut
        cases kq with
        | zero => exact absurd HA.out (by simp [crossroadlaw01_AsciiNumbers.j0])
        | succ kj6 =>
          have H := HA.out
          clear HA
          simp only [crossroadlaw01_AsciiNumbers.j0] at H
          by_cases c10 : a0.size ≤ 9223372036854775807
          · rw [if_pos c10] at H
            have LMc10 := Aside0.mk c10
            clear c10
            obtain ⟨y130, hy130⟩ : ∃ y_ : List Int, y_ = (bytesOf a0) := ⟨_, rfl⟩
            replace H : (crossroadlaw01_AsciiNumbers.l0 kj6 a0 x5_6 (!a0.toList.isEmpty) 0 y130 (y130.length : Int) 0) = some r := by first | (rw [hy130]; with_reducible exact H) | (have H2_ := (Option.bind_some _ _).symm.trans H; rw [hy130]; with_reducible exact H2_) | (have H2_ := (Option.bind_some _ _).symm.trans H; with_reducible exact H2_) | with_reducible exact H | (rw [hy130]; exact H) | exact H
            have Ny130 := Aside0.mk hy130
            clear hy130
            have H' := Aside0.mk H
            clear H
            go_wp2_with (first | ((with_reducible refine gate_dst (N := 22) rfl ?_); refine Kd.V_conv _ 5 rfl (N := 22) rfl 9 24 (.tmp 21) rfl a0 rfl Try.underlying9 Try.underlying24 Try.underlying5 (ok := fun k_ => wc.heap.size ≤ k_) (Nat.le_refl _) ?lm (Below.refl _ _) (Nat.le_refl _) ?_; (case lm => have := LMc10.out; omega); intro v131 w11 ho12 hb hg_ hnew_; clear hg_ hnew_; (first | rw [← Ny130.out] at ho12 | (simp only [Int.reduceToNat] at ho12; rw [← Ny130.out] at ho12)); have n0_ := Aside0.mk (Kd.V_lower (Kd.V_mono (ok' := fun k_ => True) ho12 (fun k_ hk_ => trivial)) (below_size (by repeat (first | (with_reducible first | exact HB.out | apply below_alloc | apply pw_below_drewN | apply below_drew1) | exact HB.out)))); have n1_ := Aside0.mk (below_step (by repeat (first | (with_reducible first | exact HB.out | apply below_alloc | apply pw_below_drewN | apply below_drew1) | exact HB.out)) hb); clear HB; have HO132 := n0_; have HB := n1_; clear n0_ n1_; clear hb ho12; obtain ⟨Ao13, co13, eo13⟩ := Kd.V_slice HO132.out; subst eo13))
            go_loopg [6, 7, 24] kj6 (fun kq v6 v7 v24 w' => ∃ (x6_2 : Bool) (x7_2 : Int) (x24_2 : Int), v6 = .bool x6_2 ∧ v7 = .int .i64 x7_2 ∧ v24 = .int .i64 x24_2 ∧ Aside0 (crossroadlaw01_AsciiNumbers.l0 kq a0 x5_6 x6_2 x7_2 y130 (y130.length : Int) x24_2 = some r) ∧ Aside0 (kq ≤ kj6) ∧ Aside0 (Kd.V (Kd.int .u8) 5 w' w.heap.size (fun _ => True) (.slice Ao13 y130.length co13) y130) ∧ Aside0 (Below w.heap.size w w'))
            case atStart => exact ⟨((!a0.toList.isEmpty)), (0), (0), (by first | rfl | (simp; done) | (simp [*]; done)), (by first | rfl | (simp; done) | (simp [*]; done)), (by first | rfl | (simp; done) | (simp [*]; done)), H', ⟨Nat.le_refl _⟩, ⟨by (with_reducible repeat (first | apply Kd.V_alloc | apply Kd.V_drewN | apply Kd.V_drew)); exact HO132.out⟩, ⟨by repeat (first | (with_reducible first | exact HB.out | apply below_alloc | apply pw_below_drewN | apply below_drew1) | exact HB.out)⟩⟩
            case round =>
              clear H'
              try clear c1
              try clear p2
              try clear c4
              try clear c6
              try clear c9
              try clear c10
              try clear c11
              try clear c12
              try clear p2
              obtain ⟨x6_2, x7_2, x24_2, rfl, rfl, rfl, HA, HK2, HO_22, HB⟩ := hrel
              cases gk with
              | zero => exact absurd HA.out (by simp [crossroadlaw01_AsciiNumbers.l0])
              | succ k2 =>
                have H := HA.out
                clear HA
                simp only [crossroadlaw01_AsciiNumbers.l0] at H
                by_cases c14 : x24_2 < (y130.length : Int)
                · rw [if_pos c14] at H
                  have c14b0 : decide (x24_2 < (y130.length : Int)) = true := decide_eq_true c14
                  clear c14
                  by_cases c15 : 0 ≤ x24_2
                  · rw [if_pos c15] at H
                    have c15b0 : decide (0 ≤ x24_2) = true := decide_eq_true c15
                    clear c15
                    by_cases c16 : x24_2 < (y130.length : Int)
                    · rw [if_pos c16] at H
                      have c16b0 : decide (x24_2 < (y130.length : Int)) = true := decide_eq_true c16
                      clear c16
                      have HC17 := Aside0.mk H
                      clear H
                      have p135 : 0 ≤ (x24_2 : Int) := of_decide_eq_true (by first | (with_reducible assumption) | assumption)
                      have q135 : x24_2 < (y130.length : Int) := of_decide_eq_true (by first | (with_reducible assumption) | assumption)
                      obtain ⟨ad135, e135, hx135_0⟩ := Kd.at_int (Kd.V_reads' HO_22.out).2.2 x24_2 p135 q135
                      cases e135
                      replace p135 := eq_true p135
                      replace q135 := eq_true q135
                      go_upto_region 13 with (fail)
                      go_cut [28] (fun v28 wc => ∃ (kq : Nat) (x28_16 : Bool), v28 = .bool x28_16 ∧ Aside0 (crossroadlaw01_AsciiNumbers.j2 kq a0 x5_6 x6_2 x7_2 (rd y130 x24_2) 99 y130 (y130.length : Int) x24_2 x28_16 = some r) ∧ Aside0 (kq ≤ k2) ∧ Aside0 (Kd.V (Kd.int .u8) 5 wc w.heap.size (fun _ => True) (.slice (some ad135) y130.length co13) y130) ∧ Aside0 (Below w.heap.size w wc))
                      case first =>
                        have H := HC17.out
                        clear HC17
                        by_cases c18 : (rd y130 x24_2) ≥ 48
                        · rw [if_pos c18] at H
                          have c18b0 : decide (48 ≤ (rd y130 x24_2)) = true := decide_eq_true c18
                          clear c18
                          (first | rw [c18b0] | (simp only [i64_w, i32_w]; rw [c18b0]) | skip)
                          have H' := Aside0.mk H
                          clear H
                          go_wp2
                          go_meet
                          case rel => exact ⟨_, (decide ((rd y130 x24_2) ≤ 57)), (by first | rfl | (simp; done) | (simp [*]; done)), H', ⟨by have := HJ6.out; have := HK2.out; first | omega | exact Nat.le_refl _⟩, ⟨by (with_reducible repeat (first | apply Kd.V_alloc | apply Kd.V_drewN | apply Kd.V_drew)); exact HO_22.out⟩, ⟨by repeat (first | (with_reducible first | exact HB.out | apply below_alloc | apply pw_below_drewN | apply below_drew1) | exact HB.out)⟩⟩
                        · rw [if_neg c18] at H
                          have c18b0 : decide (48 ≤ (rd y130 x24_2)) = false := decide_eq_false c18
                          clear c18
                          (first | rw [c18b0] | (simp only [i64_w, i32_w]; rw [c18b0]) | skip)
                          have H' := Aside0.mk H
                          clear H
                          go_wp2
                          go_meet
                          case rel => exact ⟨_, (false), (by first | rfl | (simp; done) | (simp [*]; done)), H', ⟨by have := HJ6.out; have := HK2.out; first | omega | exact Nat.le_refl _⟩, ⟨by (with_reducible repeat (first | apply Kd.V_alloc | apply Kd.V_drewN | apply Kd.V_drew)); exact HO_22.out⟩, ⟨by repeat (first | (with_reducible first | exact HB.out | apply below_alloc | apply pw_below_drewN | apply below_drew1) | exact HB.out)⟩⟩
                      case rest =>
                        clear HC17
                        try clear c1
                        try clear p1
                        try clear q1
                        try clear hx1
                        try clear p2
                        try clear c4
                        try clear c6
                        try clear c9
                        try clear c10
                        try clear c11
                        try clear c12
                        try clear p13
                        try clear q13
                        try clear hx13
                        try clear c14
                        try clear c14b0
                        try clear c15
                        try clear c15b0
                        try clear c16
                        try clear c16b0
                        try clear c18
                        try clear c18b0
                        try clear hx135_0
                        try clear p135
                        try clear p2
                        try clear q135
                        obtain ⟨kq, x28_16, rfl, HA, HJ16, HO_22, HB⟩ := hcut
                        cases kq with
                        | zero => exact absurd HA.out (by simp [crossroadlaw01_AsciiNumbers.j2])
                        | succ kj16 =>
                          have H := HA.out
                          clear HA
                          simp only [crossroadlaw01_AsciiNumbers.j2] at H
                          by_cases c19 : x28_16 = true
                          · subst c19
                            have H1 : (if x6_2 = true then (if (wrap64 ((wrap64 (x7_2 * x5_6)) + (((rd y130 x24_2) - 48) % 256))) > 1073741824 then (crossroadlaw01_AsciiNumbers.l0 kj16 a0 x5_6 false 0 y130 (y130.length : Int) (wrap64 (x24_2 + 1))) else (crossroadlaw01_AsciiNumbers.l0 kj16 a0 x5_6 (decide ((((rd y130 x24_2) - 48) % 256) < x5_6)) (wrap64 ((wrap64 (x7_2 * x5_6)) + (((rd y130 x24_2) - 48) % 256))) y130 (y130.length : Int) (wrap64 (x24_2 + 1)))) else (if (wrap64 ((wrap64 (x7_2 * x5_6)) + (((rd y130 x24_2) - 48) % 256))) > 1073741824 then (crossroadlaw01_AsciiNumbers.l0 kj16 a0 x5_6 false 0 y130 (y130.length : Int) (wrap64 (x24_2 + 1))) else (crossroadlaw01_AsciiNumbers.l0 kj16 a0 x5_6 false (wrap64 ((wrap64 (x7_2 * x5_6)) + (((rd y130 x24_2) - 48) % 256))) y130 (y130.length : Int) (wrap64 (x24_2 + 1))))) = some r := by rw [if_pos rfl] at H; exact H
                            clear H
                            have H := H1
                            clear H1
                            by_cases c20 : x6_2 = true
                            · subst c20
                              have H1 : (if (wrap64 ((wrap64 (x7_2 * x5_6)) + (((rd y130 x24_2) - 48) % 256))) > 1073741824 then (crossroadlaw01_AsciiNumbers.l0 kj16 a0 x5_6 false 0 y130 (y130.length : Int) (wrap64 (x24_2 + 1))) else (crossroadlaw01_AsciiNumbers.l0 kj16 a0 x5_6 (decide ((((rd y130 x24_2) - 48) % 256) < x5_6)) (wrap64 ((wrap64 (x7_2 * x5_6)) + (((rd y130 x24_2) - 48) % 256))) y130 (y130.length : Int) (wrap64 (x24_2 + 1)))) = some r := by rw [if_pos rfl] at H; exact H
                              clear H
                              have H := H1
                              clear H1
                              by_cases c21 : (wrap64 ((wrap64 (x7_2 * x5_6)) + (((rd y130 x24_2) - 48) % 256))) > 1073741824
                              · rw [if_pos c21] at H
                                have c21b0 : decide (1073741824 < (wrap64 ((wrap64 (x7_2 * x5_6)) + (((rd y130 x24_2) - 48) % 256)))) = true := decide_eq_true c21
                                clear c21
                                have H' := Aside0.mk H
                                clear H
                                go_wp2
                                go_roundg kj16
                                case measure => have := HJ6.out; have := HK2.out; have := HJ16.out; omega
                                case rel => exact ⟨(false), (0), (wrap64 (x24_2 + 1)), (by first | rfl | (simp; done) | (simp [*]; done)), (by first | rfl | (simp; done) | (simp [*]; done)), (by first | rfl | (simp; done) | (simp [*]; done)), H', ⟨by have := HJ6.out; have := HK2.out; have := HJ16.out; omega⟩, ⟨by (with_reducible repeat (first | apply Kd.V_alloc | apply Kd.V_drewN | apply Kd.V_drew)); exact HO_22.out⟩, ⟨by repeat (first | (with_reducible first | exact HB.out | apply below_alloc | apply pw_below_drewN | apply below_drew1) | exact HB.out)⟩⟩
                              · rw [if_neg c21] at H
                                have c21b0 : decide (1073741824 < (wrap64 ((wrap64 (x7_2 * x5_6)) + (((rd y130 x24_2) - 48) % 256)))) = false := decide_eq_false c21
                                clear c21
                                have H' := Aside0.mk H
                                clear H
                                go_wp2
                                go_roundg kj16
                                case measure => have := HJ6.out; have := HK2.out; have := HJ16.out; omega
                                case rel => exact ⟨(decide ((((rd y130 x24_2) - 48) % 256) < x5_6)), (wrap64 ((wrap64 (x7_2 * x5_6)) + (((rd y130 x24_2) - 48) % 256))), (wrap64 (x24_2 + 1)), (by first | rfl | (simp; done) | (simp [*]; done)), (by first | rfl | (simp; done) | (simp [*]; done)), (by first | rfl | (simp; done) | (simp [*]; done)), H', ⟨by have := HJ6.out; have := HK2.out; have := HJ16.out; omega⟩, ⟨by (with_reducible repeat (first | apply Kd.V_alloc | apply Kd.V_drewN | apply Kd.V_drew)); exact HO_22.out⟩, ⟨by repeat (first | (with_reducible first | exact HB.out | apply below_alloc | apply pw_below_drewN | apply below_drew1) | exact HB.out)⟩⟩
                            · replace c20 := Bool.eq_false_iff.mpr c20
                              subst c20
                              have H1 : (if (wrap64 ((wrap64 (x7_2 * x5_6)) + (((rd y130 x24_2) - 48) % 256))) > 1073741824 then (crossroadlaw01_AsciiNumbers.l0 kj16 a0 x5_6 false 0 y130 (y130.length : Int) (wrap64 (x24_2 + 1))) else (crossroadlaw01_AsciiNumbers.l0 kj16 a0 x5_6 false (wrap64 ((wrap64 (x7_2 * x5_6)) + (((rd y130 x24_2) - 48) % 256))) y130 (y130.length : Int) (wrap64 (x24_2 + 1)))) = some r := by rw [if_neg (show ¬ (false = true) by decide)] at H; exact H
                              clear H
                              have H := H1
                              clear H1
                              by_cases c22 : (wrap64 ((wrap64 (x7_2 * x5_6)) + (((rd y130 x24_2) - 48) % 256))) > 1073741824
                              · rw [if_pos c22] at H
                                have c22b0 : decide (1073741824 < (wrap64 ((wrap64 (x7_2 * x5_6)) + (((rd y130 x24_2) - 48) % 256)))) = true := decide_eq_true c22
                                clear c22
                                have H' := Aside0.mk H
                                clear H
                                go_wp2
                                go_roundg kj16
                                case measure => have := HJ6.out; have := HK2.out; have := HJ16.out; omega
                                case rel => exact ⟨(false), (0), (wrap64 (x24_2 + 1)), (by first | rfl | (simp; done) | (simp [*]; done)), (by first | rfl | (simp; done) | (simp [*]; done)), (by first | rfl | (simp; done) | (simp [*]; done)), H', ⟨by have := HJ6.out; have := HK2.out; have := HJ16.out; omega⟩, ⟨by (with_reducible repeat (first | apply Kd.V_alloc | apply Kd.V_drewN | apply Kd.V_drew)); exact HO_22.out⟩, ⟨by repeat (first | (with_reducible first | exact HB.out | apply below_alloc | apply pw_below_drewN | apply below_drew1) | exact HB.out)⟩⟩
                              · rw [if_neg c22] at H
                                have c22b0 : decide (1073741824 < (wrap64 ((wrap64 (x7_2 * x5_6)) + (((rd y130 x24_2) - 48) % 256)))) = false := decide_eq_false c22
                                clear c22
                                have H' := Aside0.mk H
                                clear H
                                go_wp2
                                go_roundg kj16
                                case measure => have := HJ6.out; have := HK2.out; have := HJ16.out; omega
                                case rel => exact ⟨(false), (wrap64 ((wrap64 (x7_2 * x5_6)) + (((rd y130 x24_2) - 48) % 256))), (wrap64 (x24_2 + 1)), (by first | rfl | (simp; done) | (simp [*]; done)), (by first | rfl | (simp; done) | (simp [*]; done)), (by first | rfl | (simp; done) | (simp [*]; done)), H', ⟨by have := HJ6.out; have := HK2.out; have := HJ16.out; omega⟩, ⟨by (with_reducible repeat (first | apply Kd.V_alloc | apply Kd.V_drewN | apply Kd.V_drew)); exact HO_22.out⟩, ⟨by repeat (first | (with_reducible first | exact HB.out | apply below_alloc | apply pw_below_drewN | apply below_drew1) | exact HB.out)⟩⟩
                          · replace c19 := Bool.eq_false_iff.mpr c19
                            subst c19
                            have H1 : (if (rd y130 x24_2) ≥ 97 then (crossroadlaw01_AsciiNumbers.j3 kj16 a0 x5_6 x6_2 x7_2 (rd y130 x24_2) 99 y130 (y130.length : Int) x24_2 (decide ((rd y130 x24_2) ≤ 102))) else (crossroadlaw01_AsciiNumbers.j3 kj16 a0 x5_6 x6_2 x7_2 (rd y130 x24_2) 99 y130 (y130.length : Int) x24_2 false)) = some r := by rw [if_neg (show ¬ (false = true) by decide)] at H; exact H
                            clear H
                            have H := H1
                            clear H1
                            have HC23 := Aside0.mk H
                            clear H
                            go_upto_region 15 with (fail)
                            go_cut [38] (fun v38 wc => ∃ (kq : Nat) (x38_22 : Bool), v38 = .bool x38_22 ∧ Aside0 (crossroadlaw01_AsciiNumbers.j3 kq a0 x5_6 x6_2 x7_2 (rd y130 x24_2) 99 y130 (y130.length : Int) x24_2 x38_22 = some r) ∧ Aside0 (kq ≤ kj16) ∧ Aside0 (Kd.V (Kd.int .u8) 5 wc w.heap.size (fun _ => True) (.slice (some ad135) y130.length co13) y130) ∧ Aside0 (Below w.heap.size w wc))
                            case first =>
                              have H := HC23.out
                              clear HC23
                              by_cases c24 : (rd y130 x24_2) ≥ 97
                              · rw [if_pos c24] at H
                                have c24b0 : decide (97 ≤ (rd y130 x24_2)) = true := decide_eq_true c24
                                clear c24
                                (first | rw [c24b0] | (simp only [i64_w, i32_w]; rw [c24b0]) | skip)
                                have H' := Aside0.mk H
                                clear H
                                go_wp2
                                go_meet
                                case rel => exact ⟨_, (decide ((rd y130 x24_2) ≤ 102)), (by first | rfl | (simp; done) | (simp [*]; done)), H', ⟨by have := HJ6.out; have := HK2.out; have := HJ16.out; first | omega | exact Nat.le_refl _⟩, ⟨by (with_reducible repeat (first | apply Kd.V_alloc | apply Kd.V_drewN | apply Kd.V_drew)); exact HO_22.out⟩, ⟨by repeat (first | (with_reducible first | exact HB.out | apply below_alloc | apply pw_below_drewN | apply below_drew1) | exact HB.out)⟩⟩
                              · rw [if_neg c24] at H
                                have c24b0 : decide (97 ≤ (rd y130 x24_2)) = false := decide_eq_false c24
                                clear c24
                                (first | rw [c24b0] | (simp only [i64_w, i32_w]; rw [c24b0]) | skip)
                                have H' := Aside0.mk H
                                clear H
                                go_wp2
                                go_meet
                                case rel => exact ⟨_, (false), (by first | rfl | (simp; done) | (simp [*]; done)), H', ⟨by have := HJ6.out; have := HK2.out; have := HJ16.out; first | omega | exact Nat.le_refl _⟩, ⟨by (with_reducible repeat (first | apply Kd.V_alloc | apply Kd.V_drewN | apply Kd.V_drew)); exact HO_22.out⟩, ⟨by repeat (first | (with_reducible first | exact HB.out | apply below_alloc | apply pw_below_drewN | apply below_drew1) | exact HB.out)⟩⟩
                            case rest =>
                              clear HC23
                              try clear c1
                              try clear p1
                              try clear q1
                              try clear hx1
                              try clear c2
                              try clear p2
                              try clear c4
                              try clear c6
                              try clear p6
                              try clear c9
                              try clear c10
                              try clear c11
                              try clear c12
                              try clear p13
                              try clear q13
                              try clear hx13
                              try clear c14
                              try clear c14b0
                              try clear c15
                              try clear c15b0
                              try clear c16
                              try clear c16b0
                              try clear c18
                              try clear c18b0
                              try clear c19
                              try clear c20
                              try clear c21
                              try clear c21b0
                              try clear c22
                              try clear c22b0
                              try clear c24
                              try clear c24b0
                              try clear hx135_0
                              try clear p1
                              try clear p13
                              try clear p135
                              try clear p2
                              try clear q1
                              try clear q13
                              try clear q135
                              obtain ⟨kq, x38_22, rfl, HA, HJ22, HO_22, HB⟩ := hcut
                              cases kq with
                              | zero => exact absurd HA.out (by simp [crossroadlaw01_AsciiNumbers.j3])
                              | succ kj22 =>
                                have H := HA.out
                                clear HA
                                simp only [crossroadlaw01_AsciiNumbers.j3] at H
                                by_cases c25 : x38_22 = true
                                · subst c25
                                  have H1 : (if x6_2 = true then (if (wrap64 ((wrap64 (x7_2 * x5_6)) + ((((rd y130 x24_2) - 97) % 256) + 10))) > 1073741824 then (crossroadlaw01_AsciiNumbers.l0 kj22 a0 x5_6 false 0 y130 (y130.length : Int) (wrap64 (x24_2 + 1))) else (crossroadlaw01_AsciiNumbers.l0 kj22 a0 x5_6 (decide (((((rd y130 x24_2) - 97) % 256) + 10) < x5_6)) (wrap64 ((wrap64 (x7_2 * x5_6)) + ((((rd y130 x24_2) - 97) % 256) + 10))) y130 (y130.length : Int) (wrap64 (x24_2 + 1)))) else (if (wrap64 ((wrap64 (x7_2 * x5_6)) + ((((rd y130 x24_2) - 97) % 256) + 10))) > 1073741824 then (crossroadlaw01_AsciiNumbers.l0 kj22 a0 x5_6 false 0 y130 (y130.length : Int) (wrap64 (x24_2 + 1))) else (crossroadlaw01_AsciiNumbers.l0 kj22 a0 x5_6 false (wrap64 ((wrap64 (x7_2 * x5_6)) + ((((rd y130 x24_2) - 97) % 256) + 10))) y130 (y130.length : Int) (wrap64 (x24_2 + 1))))) = some r := by rw [if_pos rfl] at H; exact H
                                  clear H
                                  have H := H1
                                  clear H1
                                  by_cases c26 : x6_2 = true
                                  · subst c26
                                    have H1 : (if (wrap64 ((wrap64 (x7_2 * x5_6)) + ((((rd y130 x24_2) - 97) % 256) + 10))) > 1073741824 then (crossroadlaw01_AsciiNumbers.l0 kj22 a0 x5_6 false 0 y130 (y130.length : Int) (wrap64 (x24_2 + 1))) else (crossroadlaw01_AsciiNumbers.l0 kj22 a0 x5_6 (decide (((((rd y130 x24_2) - 97) % 256) + 10) < x5_6)) (wrap64 ((wrap64 (x7_2 * x5_6)) + ((((rd y130 x24_2) - 97) % 256) + 10))) y130 (y130.length : Int) (wrap64 (x24_2 + 1)))) = some r := by rw [if_pos rfl] at H; exact H
                                    clear H
                                    have H := H1
                                    clear H1
                                    by_cases c27 : (wrap64 ((wrap64 (x7_2 * x5_6)) + ((((rd y130 x24_2) - 97) % 256) + 10))) > 1073741824
                                    · rw [if_pos c27] at H
                                      have c27b0 : decide (1073741824 < (wrap64 ((wrap64 (x7_2 * x5_6)) + ((((rd y130 x24_2) - 97) % 256) + 10)))) = true := decide_eq_true c27
                                      clear c27
                                      have H' := Aside0.mk H
                                      clear H
                                      go_wp2
                                      go_roundg kj22
                                      case measure => have := HJ6.out; have := HK2.out; have := HJ16.out; have := HJ22.out; omega
                                      case rel => exact ⟨(false), (0), (wrap64 (x24_2 + 1)), (by first | rfl | (simp; done) | (simp [*]; done)), (by first | rfl | (simp; done) | (simp [*]; done)), (by first | rfl | (simp; done) | (simp [*]; done)), H', ⟨by have := HJ6.out; have := HK2.out; have := HJ16.out; have := HJ22.out; omega⟩, ⟨by (with_reducible repeat (first | apply Kd.V_alloc | apply Kd.V_drewN | apply Kd.V_drew)); exact HO_22.out⟩, ⟨by repeat (first | (with_reducible first | exact HB.out | apply below_alloc | apply pw_below_drewN | apply below_drew1) | exact HB.out)⟩⟩
                                    · rw [if_neg c27] at H
                                      have c27b0 : decide (1073741824 < (wrap64 ((wrap64 (x7_2 * x5_6)) + ((((rd y130 x24_2) - 97) % 256) + 10)))) = false := decide_eq_false c27
                                      clear c27
                                      have H' := Aside0.mk H
                                      clear H
                                      go_wp2
                                      go_roundg kj22
                                      case measure => have := HJ6.out; have := HK2.out; have := HJ16.out; have := HJ22.out; omega
                                      case rel => exact ⟨(decide (((((rd y130 x24_2) - 97) % 256) + 10) < x5_6)), (wrap64 ((wrap64 (x7_2 * x5_6)) + ((((rd y130 x24_2) - 97) % 256) + 10))), (wrap64 (x24_2 + 1)), (by first | rfl | (simp; done) | (simp [*]; done)), (by first | rfl | (simp; done) | (simp [*]; done)), (by first | rfl | (simp; done) | (simp [*]; done)), H', ⟨by have := HJ6.out; have := HK2.out; have := HJ16.out; have := HJ22.out; omega⟩, ⟨by (with_reducible repeat (first | apply Kd.V_alloc | apply Kd.V_drewN | apply Kd.V_drew)); exact HO_22.out⟩, ⟨by repeat (first | (with_reducible first | exact HB.out | apply below_alloc | apply pw_below_drewN | apply below_drew1) | exact HB.out)⟩⟩
                                  · replace c26 := Bool.eq_false_iff.mpr c26
                                    subst c26
                                    have H1 : (if (wrap64 ((wrap64 (x7_2 * x5_6)) + ((((rd y130 x24_2) - 97) % 256) + 10))) > 1073741824 then (crossroadlaw01_AsciiNumbers.l0 kj22 a0 x5_6 false 0 y130 (y130.length : Int) (wrap64 (x24_2 + 1))) else (crossroadlaw01_AsciiNumbers.l0 kj22 a0 x5_6 false (wrap64 ((wrap64 (x7_2 * x5_6)) + ((((rd y130 x24_2) - 97) % 256) + 10))) y130 (y130.length : Int) (wrap64 (x24_2 + 1)))) = some r := by rw [if_neg (show ¬ (false = true) by decide)] at H; exact H
                                    clear H
                                    have H := H1
                                    clear H1
                                    by_cases c28 : (wrap64 ((wrap64 (x7_2 * x5_6)) + ((((rd y130 x24_2) - 97) % 256) + 10))) > 1073741824
                                    · rw [if_pos c28] at H
                                      have c28b0 : decide (1073741824 < (wrap64 ((wrap64 (x7_2 * x5_6)) + ((((rd y130 x24_2) - 97) % 256) + 10)))) = true := decide_eq_true c28
                                      clear c28
                                      have H' := Aside0.mk H
                                      clear H
                                      go_wp2
                                      go_roundg kj22
                                      case measure => have := HJ6.out; have := HK2.out; have := HJ16.out; have := HJ22.out; omega
                                      case rel => exact ⟨(false), (0), (wrap64 (x24_2 + 1)), (by first | rfl | (simp; done) | (simp [*]; done)), (by first | rfl | (simp; done) | (simp [*]; done)), (by first | rfl | (simp; done) | (simp [*]; done)), H', ⟨by have := HJ6.out; have := HK2.out; have := HJ16.out; have := HJ22.out; omega⟩, ⟨by (with_reducible repeat (first | apply Kd.V_alloc | apply Kd.V_drewN | apply Kd.V_drew)); exact HO_22.out⟩, ⟨by repeat (first | (with_reducible first | exact HB.out | apply below_alloc | apply pw_below_drewN | apply below_drew1) | exact HB.out)⟩⟩
                                    · rw [if_neg c28] at H
                                      have c28b0 : decide (1073741824 < (wrap64 ((wrap64 (x7_2 * x5_6)) + ((((rd y130 x24_2) - 97) % 256) + 10)))) = false := decide_eq_false c28
                                      clear c28
                                      have H' := Aside0.mk H
                                      clear H
                                      go_wp2
                                      go_roundg kj22
                                      case measure => have := HJ6.out; have := HK2.out; have := HJ16.out; have := HJ22.out; omega
                                      case rel => exact ⟨(false), (wrap64 ((wrap64 (x7_2 * x5_6)) + ((((rd y130 x24_2) - 97) % 256) + 10))), (wrap64 (x24_2 + 1)), (by first | rfl | (simp; done) | (simp [*]; done)), (by first | rfl | (simp; done) | (simp [*]; done)), (by first | rfl | (simp; done) | (simp [*]; done)), H', ⟨by have := HJ6.out; have := HK2.out; have := HJ16.out; have := HJ22.out; omega⟩, ⟨by (with_reducible repeat (first | apply Kd.V_alloc | apply Kd.V_drewN | apply Kd.V_drew)); exact HO_22.out⟩, ⟨by repeat (first | (with_reducible first | exact HB.out | apply below_alloc | apply pw_below_drewN | apply below_drew1) | exact HB.out)⟩⟩
                                · replace c25 := Bool.eq_false_iff.mpr c25
                                  subst c25
                                  have H1 : (if (rd y130 x24_2) ≥ 65 then (crossroadlaw01_AsciiNumbers.j4 kj22 a0 x5_6 x6_2 x7_2 (rd y130 x24_2) 99 y130 (y130.length : Int) x24_2 (decide ((rd y130 x24_2) ≤ 70))) else (crossroadlaw01_AsciiNumbers.j4 kj22 a0 x5_6 x6_2 x7_2 (rd y130 x24_2) 99 y130 (y130.length : Int) x24_2 false)) = some r := by rw [if_neg (show ¬ (false = true) by decide)] at H; exact H
                                  clear H
                                  have H := H1
                                  clear H1
                                  have HC29 := Aside0.mk H
                                  clear H
                                  go_upto_region 17 with (fail)
                                  go_cut [49] (fun v49 wc => ∃ (kq : Nat) (x49_28 : Bool), v49 = .bool x49_28 ∧ Aside0 (crossroadlaw01_AsciiNumbers.j4 kq a0 x5_6 x6_2 x7_2 (rd y130 x24_2) 99 y130 (y130.length : Int) x24_2 x49_28 = some r) ∧ Aside0 (kq ≤ kj22) ∧ Aside0 (Kd.V (Kd.int .u8) 5 wc w.heap.size (fun _ => True) (.slice (some ad135) y130.length co13) y130) ∧ Aside0 (Below w.heap.size w wc))
                                  case first =>
                                    have H := HC29.out
                                    clear HC29
                                    by_cases c30 : (rd y130 x24_2) ≥ 65
                                    · rw [if_pos c30] at H
                                      have c30b0 : decide (65 ≤ (rd y130 x24_2)) = true := decide_eq_true c30
                                      clear c30
                                      (first | rw [c30b0] | (simp only [i64_w, i32_w]; rw [c30b0]) | skip)
                                      have H' := Aside0.mk H
                                      clear H
                                      go_wp2
                                      go_meet
                                      case rel => exact ⟨_, (decide ((rd y130 x24_2) ≤ 70)), (by first | rfl | (simp; done) | (simp [*]; done)), H', ⟨by have := HJ6.out; have := HK2.out; have := HJ16.out; have := HJ22.out; first | omega | exact Nat.le_refl _⟩, ⟨by (with_reducible repeat (first | apply Kd.V_alloc | apply Kd.V_drewN | apply Kd.V_drew)); exact HO_22.out⟩, ⟨by repeat (first | (with_reducible first | exact HB.out | apply below_alloc | apply pw_below_drewN | apply below_drew1) | exact HB.out)⟩⟩
                                    · rw [if_neg c30] at H
                                      have c30b0 : decide (65 ≤ (rd y130 x24_2)) = false := decide_eq_false c30
                                      clear c30
                                      (first | rw [c30b0] | (simp only [i64_w, i32_w]; rw [c30b0]) | skip)
                                      have H' := Aside0.mk H
                                      clear H
                                      go_wp2
                                      go_meet
                                      case rel => exact ⟨_, (false), (by first | rfl | (simp; done) | (simp [*]; done)), H', ⟨by have := HJ6.out; have := HK2.out; have := HJ16.out; have := HJ22.out; first | omega | exact Nat.le_refl _⟩, ⟨by (with_reducible repeat (first | apply Kd.V_alloc | apply Kd.V_drewN | apply Kd.V_drew)); exact HO_22.out⟩, ⟨by repeat (first | (with_reducible first | exact HB.out | apply below_alloc | apply pw_below_drewN | apply below_drew1) | exact HB.out)⟩⟩
                                  case rest =>
                                    clear HC29
                                    try clear c1
                                    try clear p1
                                    try clear q1
                                    try clear hx1
                                    try clear c2
                                    try clear p2
                                    try clear c3
                                    try clear c4
                                    try clear c6
                                    try clear p6
                                    try clear c9
                                    try clear c10
                                    try clear c11
                                    try clear c12
                                    try clear p13
                                    try clear q13
                                    try clear hx13
                                    try clear c14
                                    try clear c14b0
                                    try clear c15
                                    try clear c15b0
                                    try clear c16
                                    try clear c16b0
                                    try clear c18
                                    try clear c18b0
                                    try clear c19
                                    try clear c20
                                    try clear c21
                                    try clear c21b0
                                    try clear c22
                                    try clear c22b0
                                    try clear c24
                                    try clear c24b0
                                    try clear c25
                                    try clear c26
                                    try clear c27
                                    try clear c27b0
                                    try clear c28
                                    try clear c28b0
                                    try clear c30
                                    try clear c30b0
                                    try clear hx135_0
                                    try clear p1
                                    try clear p13
                                    try clear p135
                                    try clear p2
                                    try clear p6
                                    try clear q1
                                    try clear q13
                                    try clear q135
                                    obtain ⟨kq, x49_28, rfl, HA, HJ28, HO_22, HB⟩ := hcut
                                    cases kq with
                                    | zero => exact absurd HA.out (by simp [crossroadlaw01_AsciiNumbers.j4])
                                    | succ kj28 =>
                                      have H := HA.out
                                      clear HA
                                      simp only [crossroadlaw01_AsciiNumbers.j4] at H
                                      by_cases c31 : x49_28 = true
                                      · subst c31
                                        have H1 : (if x6_2 = true then (if (wrap64 ((wrap64 (x7_2 * x5_6)) + ((((rd y130 x24_2) - 65) % 256) + 10))) > 1073741824 then (crossroadlaw01_AsciiNumbers.l0 kj28 a0 x5_6 false 0 y130 (y130.length : Int) (wrap64 (x24_2 + 1))) else (crossroadlaw01_AsciiNumbers.l0 kj28 a0 x5_6 (decide (((((rd y130 x24_2) - 65) % 256) + 10) < x5_6)) (wrap64 ((wrap64 (x7_2 * x5_6)) + ((((rd y130 x24_2) - 65) % 256) + 10))) y130 (y130.length : Int) (wrap64 (x24_2 + 1)))) else (if (wrap64 ((wrap64 (x7_2 * x5_6)) + ((((rd y130 x24_2) - 65) % 256) + 10))) > 1073741824 then (crossroadlaw01_AsciiNumbers.l0 kj28 a0 x5_6 false 0 y130 (y130.length : Int) (wrap64 (x24_2 + 1))) else (crossroadlaw01_AsciiNumbers.l0 kj28 a0 x5_6 false (wrap64 ((wrap64 (x7_2 * x5_6)) + ((((rd y130 x24_2) - 65) % 256) + 10))) y130 (y130.length : Int) (wrap64 (x24_2 + 1))))) = some r := by rw [if_pos rfl] at H; exact H
                                        clear H
                                        have H := H1
                                        clear H1
                                        by_cases c32 : x6_2 = true
                                        · subst c32
                                          have H1 : (if (wrap64 ((wrap64 (x7_2 * x5_6)) + ((((rd y130 x24_2) - 65) % 256) + 10))) > 1073741824 then (crossroadlaw01_AsciiNumbers.l0 kj28 a0 x5_6 false 0 y130 (y130.length : Int) (wrap64 (x24_2 + 1))) else (crossroadlaw01_AsciiNumbers.l0 kj28 a0 x5_6 (decide (((((rd y130 x24_2) - 65) % 256) + 10) < x5_6)) (wrap64 ((wrap64 (x7_2 * x5_6)) + ((((rd y130 x24_2) - 65) % 256) + 10))) y130 (y130.length : Int) (wrap64 (x24_2 + 1)))) = some r := by rw [if_pos rfl] at H; exact H
                                          clear H
                                          have H := H1
                                          clear H1
                                          by_cases c33 : (wrap64 ((wrap64 (x7_2 * x5_6)) + ((((rd y130 x24_2) - 65) % 256) + 10))) > 1073741824
                                          · rw [if_pos c33] at H
                                            have c33b0 : decide (1073741824 < (wrap64 ((wrap64 (x7_2 * x5_6)) + ((((rd y130 x24_2) - 65) % 256) + 10)))) = true := decide_eq_true c33
                                            clear c33
                                            have H' := Aside0.mk H
                                            clear H
                                            go_wp2
                                            go_roundg kj28
                                            case measure => have := HJ6.out; have := HK2.out; have := HJ16.out; have := HJ22.out; have := HJ28.out; omega
                                            case rel => exact ⟨(false), (0), (wrap64 (x24_2 + 1)), (by first | rfl | (simp; done) | (simp [*]; done)), (by first | rfl | (simp; done) | (simp [*]; done)), (by first | rfl | (simp; done) | (simp [*]; done)), H', ⟨by have := HJ6.out; have := HK2.out; have := HJ16.out; have := HJ22.out; have := HJ28.out; omega⟩, ⟨by (with_reducible repeat (first | apply Kd.V_alloc | apply Kd.V_drewN | apply Kd.V_drew)); exact HO_22.out⟩, ⟨by repeat (first | (with_reducible first | exact HB.out | apply below_alloc | apply pw_below_drewN | apply below_drew1) | exact HB.out)⟩⟩
                                          · rw [if_neg c33] at H
                                            have c33b0 : decide (1073741824 < (wrap64 ((wrap64 (x7_2 * x5_6)) + ((((rd y130 x24_2) - 65) % 256) + 10)))) = false := decide_eq_false c33
                                            clear c33
                                            have H' := Aside0.mk H
                                            clear H
                                            go_wp2
                                            go_roundg kj28
                                            case measure => have := HJ6.out; have := HK2.out; have := HJ16.out; have := HJ22.out; have := HJ28.out; omega
                                            case rel => exact ⟨(decide (((((rd y130 x24_2) - 65) % 256) + 10) < x5_6)), (wrap64 ((wrap64 (x7_2 * x5_6)) + ((((rd y130 x24_2) - 65) % 256) + 10))), (wrap64 (x24_2 + 1)), (by first | rfl | (simp; done) | (simp [*]; done)), (by first | rfl | (simp; done) | (simp [*]; done)), (by first | rfl | (simp; done) | (simp [*]; done)), H', ⟨by have := HJ6.out; have := HK2.out; have := HJ16.out; have := HJ22.out; have := HJ28.out; omega⟩, ⟨by (with_reducible repeat (first | apply Kd.V_alloc | apply Kd.V_drewN | apply Kd.V_drew)); exact HO_22.out⟩, ⟨by repeat (first | (with_reducible first | exact HB.out | apply below_alloc | apply pw_below_drewN | apply below_drew1) | exact HB.out)⟩⟩
                                        · replace c32 := Bool.eq_false_iff.mpr c32
                                          subst c32
                                          have H1 : (if (wrap64 ((wrap64 (x7_2 * x5_6)) + ((((rd y130 x24_2) - 65) % 256) + 10))) > 1073741824 then (crossroadlaw01_AsciiNumbers.l0 kj28 a0 x5_6 false 0 y130 (y130.length : Int) (wrap64 (x24_2 + 1))) else (crossroadlaw01_AsciiNumbers.l0 kj28 a0 x5_6 false (wrap64 ((wrap64 (x7_2 * x5_6)) + ((((rd y130 x24_2) - 65) % 256) + 10))) y130 (y130.length : Int) (wrap64 (x24_2 + 1)))) = some r := by rw [if_neg (show ¬ (false = true) by decide)] at H; exact H
                                          clear H
                                          have H := H1
                                          clear H1
                                          by_cases c34 : (wrap64 ((wrap64 (x7_2 * x5_6)) + ((((rd y130 x24_2) - 65) % 256) + 10))) > 1073741824
                                          · rw [if_pos c34] at H
                                            have c34b0 : decide (1073741824 < (wrap64 ((wrap64 (x7_2 * x5_6)) + ((((rd y130 x24_2) - 65) % 256) + 10)))) = true := decide_eq_true c34
                                            clear c34
                                            have H' := Aside0.mk H
                                            clear H
                                            go_wp2
                                            go_roundg kj28
                                            case measure => have := HJ6.out; have := HK2.out; have := HJ16.out; have := HJ22.out; have := HJ28.out; omega
                                            case rel => exact ⟨(false), (0), (wrap64 (x24_2 + 1)), (by first | rfl | (simp; done) | (simp [*]; done)), (by first | rfl | (simp; done) | (simp [*]; done)), (by first | rfl | (simp; done) | (simp [*]; done)), H', ⟨by have := HJ6.out; have := HK2.out; have := HJ16.out; have := HJ22.out; have := HJ28.out; omega⟩, ⟨by (with_reducible repeat (first | apply Kd.V_alloc | apply Kd.V_drewN | apply Kd.V_drew)); exact HO_22.out⟩, ⟨by repeat (first | (with_reducible first | exact HB.out | apply below_alloc | apply pw_below_drewN | apply below_drew1) | exact HB.out)⟩⟩
                                          · rw [if_neg c34] at H
                                            have c34b0 : decide (1073741824 < (wrap64 ((wrap64 (x7_2 * x5_6)) + ((((rd y130 x24_2) - 65) % 256) + 10)))) = false := decide_eq_false c34
                                            clear c34
                                            have H' := Aside0.mk H
                                            clear H
                                            go_wp2
                                            go_roundg kj28
                                            case measure => have := HJ6.out; have := HK2.out; have := HJ16.out; have := HJ22.out; have := HJ28.out; omega
                                            case rel => exact ⟨(false), (wrap64 ((wrap64 (x7_2 * x5_6)) + ((((rd y130 x24_2) - 65) % 256) + 10))), (wrap64 (x24_2 + 1)), (by first | rfl | (simp; done) | (simp [*]; done)), (by first | rfl | (simp; done) | (simp [*]; done)), (by first | rfl | (simp; done) | (simp [*]; done)), H', ⟨by have := HJ6.out; have := HK2.out; have := HJ16.out; have := HJ22.out; have := HJ28.out; omega⟩, ⟨by (with_reducible repeat (first | apply Kd.V_alloc | apply Kd.V_drewN | apply Kd.V_drew)); exact HO_22.out⟩, ⟨by repeat (first | (with_reducible first | exact HB.out | apply below_alloc | apply pw_below_drewN | apply below_drew1) | exact HB.out)⟩⟩
                                      · replace c31 := Bool.eq_false_iff.mpr c31
                                        subst c31
                                        have H1 : (if x6_2 = true then (if (wrap64 ((wrap64 (x7_2 * x5_6)) + 99)) > 1073741824 then (crossroadlaw01_AsciiNumbers.l0 kj28 a0 x5_6 false 0 y130 (y130.length : Int) (wrap64 (x24_2 + 1))) else (crossroadlaw01_AsciiNumbers.l0 kj28 a0 x5_6 (decide (99 < x5_6)) (wrap64 ((wrap64 (x7_2 * x5_6)) + 99)) y130 (y130.length : Int) (wrap64 (x24_2 + 1)))) else (if (wrap64 ((wrap64 (x7_2 * x5_6)) + 99)) > 1073741824 then (crossroadlaw01_AsciiNumbers.l0 kj28 a0 x5_6 false 0 y130 (y130.length : Int) (wrap64 (x24_2 + 1))) else (crossroadlaw01_AsciiNumbers.l0 kj28 a0 x5_6 false (wrap64 ((wrap64 (x7_2 * x5_6)) + 99)) y130 (y130.length : Int) (wrap64 (x24_2 + 1))))) = some r := by rw [if_neg (show ¬ (false = true) by decide)] at H; exact H
                                        clear H
                                        have H := H1
                                        clear H1
                                        by_cases c35 : x6_2 = true
                                        · subst c35
                                          have H1 : (if (wrap64 ((wrap64 (x7_2 * x5_6)) + 99)) > 1073741824 then (crossroadlaw01_AsciiNumbers.l0 kj28 a0 x5_6 false 0 y130 (y130.length : Int) (wrap64 (x24_2 + 1))) else (crossroadlaw01_AsciiNumbers.l0 kj28 a0 x5_6 (decide (99 < x5_6)) (wrap64 ((wrap64 (x7_2 * x5_6)) + 99)) y130 (y130.length : Int) (wrap64 (x24_2 + 1)))) = some r := by rw [if_pos rfl] at H; exact H
                                          clear H
                                          have H := H1
                                          clear H1
                                          by_cases c36 : (wrap64 ((wrap64 (x7_2 * x5_6)) + 99)) > 1073741824
                                          · rw [if_pos c36] at H
                                            have c36b0 : decide (1073741824 < (wrap64 ((wrap64 (x7_2 * x5_6)) + 99))) = true := decide_eq_true c36
                                            clear c36
                                            have H' := Aside0.mk H
                                            clear H
                                            go_wp2
                                            go_roundg kj28
                                            case measure => have := HJ6.out; have := HK2.out; have := HJ16.out; have := HJ22.out; have := HJ28.out; omega
                                            case rel => exact ⟨(false), (0), (wrap64 (x24_2 + 1)), (by first | rfl | (simp; done) | (simp [*]; done)), (by first | rfl | (simp; done) | (simp [*]; done)), (by first | rfl | (simp; done) | (simp [*]; done)), H', ⟨by have := HJ6.out; have := HK2.out; have := HJ16.out; have := HJ22.out; have := HJ28.out; omega⟩, ⟨by (with_reducible repeat (first | apply Kd.V_alloc | apply Kd.V_drewN | apply Kd.V_drew)); exact HO_22.out⟩, ⟨by repeat (first | (with_reducible first | exact HB.out | apply below_alloc | apply pw_below_drewN | apply below_drew1) | exact HB.out)⟩⟩
                                          · rw [if_neg c36] at H
                                            have c36b0 : decide (1073741824 < (wrap64 ((wrap64 (x7_2 * x5_6)) + 99))) = false := decide_eq_false c36
                                            clear c36
                                            have H' := Aside0.mk H
                                            clear H
                                            go_wp2
                                            go_roundg kj28
                                            case measure => have := HJ6.out; have := HK2.out; have := HJ16.out; have := HJ22.out; have := HJ28.out; omega
                                            case rel => exact ⟨(decide (99 < x5_6)), (wrap64 ((wrap64 (x7_2 * x5_6)) + 99)), (wrap64 (x24_2 + 1)), (by first | rfl | (simp; done) | (simp [*]; done)), (by first | rfl | (simp; done) | (simp [*]; done)), (by first | rfl | (simp; done) | (simp [*]; done)), H', ⟨by have := HJ6.out; have := HK2.out; have := HJ16.out; have := HJ22.out; have := HJ28.out; omega⟩, ⟨by (with_reducible repeat (first | apply Kd.V_alloc | apply Kd.V_drewN | apply Kd.V_drew)); exact HO_22.out⟩, ⟨by repeat (first | (with_reducible first | exact HB.out | apply below_alloc | apply pw_below_drewN | apply below_drew1) | exact HB.out)⟩⟩
                                        · replace c35 := Bool.eq_false_iff.mpr c35
                                          subst c35
                                          have H1 : (if (wrap64 ((wrap64 (x7_2 * x5_6)) + 99)) > 1073741824 then (crossroadlaw01_AsciiNumbers.l0 kj28 a0 x5_6 false 0 y130 (y130.length : Int) (wrap64 (x24_2 + 1))) else (crossroadlaw01_AsciiNumbers.l0 kj28 a0 x5_6 false (wrap64 ((wrap64 (x7_2 * x5_6)) + 99)) y130 (y130.length : Int) (wrap64 (x24_2 + 1)))) = some r := by rw [if_neg (show ¬ (false = true) by decide)] at H; exact H
                                          clear H
                                          have H := H1
                                          clear H1
                                          by_cases c37 : (wrap64 ((wrap64 (x7_2 * x5_6)) + 99)) > 1073741824
                                          · rw [if_pos c37] at H
                                            have c37b0 : decide (1073741824 < (wrap64 ((wrap64 (x7_2 * x5_6)) + 99))) = true := decide_eq_true c37
                                            clear c37
                                            have H' := Aside0.mk H
                                            clear H
                                            go_wp2
                                            go_roundg kj28
                                            case measure => have := HJ6.out; have := HK2.out; have := HJ16.out; have := HJ22.out; have := HJ28.out; omega
                                            case rel => exact ⟨(false), (0), (wrap64 (x24_2 + 1)), (by first | rfl | (simp; done) | (simp [*]; done)), (by first | rfl | (simp; done) | (simp [*]; done)), (by first | rfl | (simp; done) | (simp [*]; done)), H', ⟨by have := HJ6.out; have := HK2.out; have := HJ16.out; have := HJ22.out; have := HJ28.out; omega⟩, ⟨by (with_reducible repeat (first | apply Kd.V_alloc | apply Kd.V_drewN | apply Kd.V_drew)); exact HO_22.out⟩, ⟨by repeat (first | (with_reducible first | exact HB.out | apply below_alloc | apply pw_below_drewN | apply below_drew1) | exact HB.out)⟩⟩
                                          · rw [if_neg c37] at H
                                            have c37b0 : decide (1073741824 < (wrap64 ((wrap64 (x7_2 * x5_6)) + 99))) = false := decide_eq_false c37
                                            clear c37
                                            have H' := Aside0.mk H
                                            clear H
                                            go_wp2
                                            go_roundg kj28
                                            case measure => have := HJ6.out; have := HK2.out; have := HJ16.out; have := HJ22.out; have := HJ28.out; omega
                                            case rel => exact ⟨(false), (wrap64 ((wrap64 (x7_2 * x5_6)) + 99)), (wrap64 (x24_2 + 1)), (by first | rfl | (simp; done) | (simp [*]; done)), (by first | rfl | (simp; done) | (simp [*]; done)), (by first | rfl | (simp; done) | (simp [*]; done)), H', ⟨by have := HJ6.out; have := HK2.out; have := HJ16.out; have := HJ22.out; have := HJ28.out; omega⟩, ⟨by (with_reducible repeat (first | apply Kd.V_alloc | apply Kd.V_drewN | apply Kd.V_drew)); exact HO_22.out⟩, ⟨by repeat (first | (with_reducible first | exact HB.out | apply below_alloc | apply pw_below_drewN | apply below_drew1) | exact HB.out)⟩⟩
                    · rw [if_neg c16] at H
                      exact absurd H (by simp)
                  · rw [if_neg c15] at H
                    exact absurd H (by simp)
                · rw [if_neg c14] at H
                  have c14b0 : decide (x24_2 < (y130.length : Int)) = false := decide_eq_false c14
                  clear c14
                  replace H := Option.bind_eq_some_iff.mp H
                  obtain ⟨⟨t133, t134⟩, A380, H⟩ := H
                  replace H : (if (t134 == x6_2) = true then (if x6_2 = true then (if t133 = x7_2 then (some true) else (some false)) else (some (t133 == 0))) else (some false)) = some r := H
                  have A38 := Aside0.mk A380
                  clear A380
                  by_cases c39 : (t134 == x6_2) = true
                  · rw [if_pos c39] at H
                    have c39b0 : (t134 == x6_2) = true := c39
                    (try (have c39b1 : decide (t134 = x6_2) = true := by simpa using c39))
                    (try (have c39b2 : (t134 == x6_2) = true := by simpa using c39))
                    clear c39
                    by_cases c40 : x6_2 = true
                    · subst c40
                      have H1 : (if t133 = x7_2 then (some true) else (some false)) = some r := by rw [if_pos rfl] at H; exact H
                      clear H
                      have H := H1
                      clear H1
                      by_cases c41 : t133 = x7_2
                      · rw [if_pos c41] at H
                        have c41b0 : (t133 == x7_2) = true := beq_iff_eq.mpr c41
                        have c41b1 : (t133 != x7_2) = false := bne_eq_false_iff_eq.mpr c41
                        clear c41
                        obtain rfl := Option.some.inj H
                        go_wp2_with (first | ((with_reducible refine gate_callee (f := 14) rfl ?_); refine goesL_ (some 77) rfl rfl Try.func14 (by kernel_rfl) rfl #[.string a0, .int .i64 x5_6] rfl (by (try simp only [List.map_toArray, List.map_cons, List.map_nil]); first | done | rfl | (simp only [List.length_drop, List.length_take]; rfl)) ?_; (with_reducible refine (ascii_Number.calls k2 a0 x5_6 t133 t134 _ A38.out).mono ?_); rintro e w' ⟨rfl, ⟨nd, rfl⟩⟩; refine ⟨_, rfl, ?_⟩))
                        go_ret
                        exact ⟨by first | rfl | (simp [errW_none, errW_some] <;> rfl) | (simp [*, errW_none, errW_some] <;> rfl), by repeat (first | (with_reducible first | exact HB.out | apply below_alloc | apply pw_below_drewN | apply below_drew1) | exact HB.out)⟩
                      · rw [if_neg c41] at H
                        have c41b0 : (t133 == x7_2) = false := beq_eq_false_iff_ne.mpr c41
                        have c41b1 : (t133 != x7_2) = true := bne_iff_ne.mpr c41
                        obtain rfl := Option.some.inj H
                        go_wp2_with (first | ((with_reducible refine gate_callee (f := 14) rfl ?_); refine goesL_ (some 77) rfl rfl Try.func14 (by kernel_rfl) rfl #[.string a0, .int .i64 x5_6] rfl (by (try simp only [List.map_toArray, List.map_cons, List.map_nil]); first | done | rfl | (simp only [List.length_drop, List.length_take]; rfl)) ?_; (with_reducible refine (ascii_Number.calls k2 a0 x5_6 t133 t134 _ A38.out).mono ?_); rintro e w' ⟨rfl, ⟨nd, rfl⟩⟩; refine ⟨_, rfl, ?_⟩))
                        go_ret
                        exact ⟨by first | rfl | (simp [errW_none, errW_some] <;> rfl) | (simp [*, errW_none, errW_some] <;> rfl), by repeat (first | (with_reducible first | exact HB.out | apply below_alloc | apply pw_below_drewN | apply below_drew1) | exact HB.out)⟩
                    · replace c40 := Bool.eq_false_iff.mpr c40
                      subst c40
                      have H1 : (some (t133 == 0)) = some r := by rw [if_neg (show ¬ (false = true) by decide)] at H; exact H
                      clear H
                      have H := H1
                      clear H1
                      obtain rfl := Option.some.inj H
                      go_wp2_with (first | ((with_reducible refine gate_callee (f := 14) rfl ?_); refine goesL_ (some 77) rfl rfl Try.func14 (by kernel_rfl) rfl #[.string a0, .int .i64 x5_6] rfl (by (try simp only [List.map_toArray, List.map_cons, List.map_nil]); first | done | rfl | (simp only [List.length_drop, List.length_take]; rfl)) ?_; (with_reducible refine (ascii_Number.calls k2 a0 x5_6 t133 t134 _ A38.out).mono ?_); rintro e w' ⟨rfl, ⟨nd, rfl⟩⟩; refine ⟨_, rfl, ?_⟩))
                      go_ret
                      exact ⟨by first | rfl | (simp [errW_none, errW_some] <;> rfl) | (simp [*, errW_none, errW_some] <;> rfl), by repeat (first | (with_reducible first | exact HB.out | apply below_alloc | apply pw_below_drewN | apply below_drew1) | exact HB.out)⟩
                  · rw [if_neg c39] at H
                    have c39b0 : (t134 == x6_2) = false := by simpa using c39
                    (try (have c39b1 : decide (t134 = x6_2) = false := by simpa using c39))
                    (try (have c39b2 : (t134 == x6_2) = false := by simpa using c39))
                    (try (have c39b3 : ¬ (t134 = x6_2) := by simpa using c39))
                    clear c39
                    obtain rfl := Option.some.inj H
                    go_wp2_with (first | ((with_reducible refine gate_callee (f := 14) rfl ?_); refine goesL_ (some 77) rfl rfl Try.func14 (by kernel_rfl) rfl #[.string a0, .int .i64 x5_6] rfl (by (try simp only [List.map_toArray, List.map_cons, List.map_nil]); first | done | rfl | (simp only [List.length_drop, List.length_take]; rfl)) ?_; (with_reducible refine (ascii_Number.calls k2 a0 x5_6 t133 t134 _ A38.out).mono ?_); rintro e w' ⟨rfl, ⟨nd, rfl⟩⟩; refine ⟨_, rfl, ?_⟩))
                    go_ret
                    exact ⟨by first | rfl | (simp [errW_none, errW_some] <;> rfl) | (simp [*, errW_none, errW_some] <;> rfl), by repeat (first | (with_reducible first | exact HB.out | apply below_alloc | apply pw_below_drewN | apply below_drew1) | exact HB.out)⟩
          · rw [if_neg c10] at H
            exact absurd H (by simp)
    · replace c6 := Bool.eq_false_iff.mpr c6
      subst c6
      have H1 : (some true) = some r := by rw [if_neg (show ¬ (false = true) by decide)] at H; exact H
      clear H
      have H := H1
      clear H1
      obtain rfl := Option.some.inj H
      go_enter Try.func4, Try.ntmps4
      go_wp2_with (first | ((with_reducible refine gate_callee (f := 11) rfl ?_); refine goesL_ (some 13) rfl rfl Try.func11 (by kernel_rfl) rfl #[] rfl (by (try simp only [List.map_toArray, List.map_cons, List.map_nil]); first | done | rfl | (simp only [List.length_drop, List.length_take]; rfl)) ?_; (with_reducible refine (crossroadlaw01_fit.calls k  true _ A3.out).mono ?_); rintro e w42 ⟨rfl, hb⟩; refine ⟨_, rfl, ?_⟩; have n0_ := Aside0.mk (below_step (by repeat (first | (with_reducible first | exact HB.out | apply below_alloc | apply pw_below_drewN | apply below_drew1) | exact HB.out)) hb); clear HB; have HB := n0_; clear n0_; (try clear hb); (try clear hb2); (try clear hk); (try clear hi)) | ((with_reducible refine gate_callee (f := 12) rfl ?_); refine goesL_ (some 16) rfl rfl Try.func12 (by kernel_rfl) rfl #[.string a0] rfl (by (try simp only [List.map_toArray, List.map_cons, List.map_nil]); first | done | rfl | (simp only [List.length_drop, List.length_take]; rfl)) ?_; (with_reducible refine (crossroadlaw01_light.calls a0 false _ A5.out).mono ?_); rintro e w' ⟨rfl, ⟨nd, rfl⟩⟩; refine ⟨_, rfl, ?_⟩))
      go_ret
      exact ⟨by first | rfl | (simp [errW_none, errW_some] <;> rfl) | (simp [*, errW_none, errW_some] <;> rfl), by repeat (first | (with_reducible first | exact HB.out | apply below_alloc | apply pw_below_drewN | apply below_drew1) | exact HB.out)⟩
  · replace c4 := Bool.eq_false_iff.mpr c4
    subst c4
    have H1 : (some false) = some r := by rw [if_neg (show ¬ (false = true) by decide)] at H; exact H
    clear H
    have H := H1
    clear H1
    obtain rfl := Option.some.inj H
    go_enter Try.func4, Try.ntmps4
    go_wp2_with (first | ((with_reducible refine gate_callee (f := 11) rfl ?_); refine goesL_ (some 13) rfl rfl Try.func11 (by kernel_rfl) rfl #[] rfl (by (try simp only [List.map_toArray, List.map_cons, List.map_nil]); first | done | rfl | (simp only [List.length_drop, List.length_take]; rfl)) ?_; (with_reducible refine (crossroadlaw01_fit.calls k  false _ A3.out).mono ?_); rintro e w43 ⟨rfl, hb⟩; refine ⟨_, rfl, ?_⟩; have n0_ := Aside0.mk (below_step (by repeat (first | (with_reducible first | exact HB.out | apply below_alloc | apply pw_below_drewN | apply below_drew1) | exact HB.out)) hb); clear HB; have HB := n0_; clear n0_; (try clear hb); (try clear hb2); (try clear hk); (try clear hi)))
    go_ret
    exact ⟨by first | rfl | (simp [errW_none, errW_some] <;> rfl) | (simp [*, errW_none, errW_some] <;> rfl), by repeat (first | (with_reducible first | exact HB.out | apply below_alloc | apply pw_below_drewN | apply below_drew1) | exact HB.out)⟩

/-- THE ONE PURE STATEMENT of crossroadlaw01_AsciiNumbers: yours. -/
def crossroadlaw01_AsciiNumbers.Pure : Prop := ∀ (a0 : ByteArray) (a1 : Bool), a0.size ≤ 140737488351232 → ∃ k, crossroadlaw01_AsciiNumbers.f k a0 a1 = some true
theorem crossroadlaw01_AsciiNumbers.walk (P : crossroadlaw01_AsciiNumbers.Pure) (a0 : ByteArray) (a1 : Bool) (w : World) (w0 : a0.size ≤ 140737488351232) :
    Calls Try.prog 4 #[.string a0, .bool a1] w fun e w' => e = .returned (.bool true) ∧ Below w.heap.size w w' := by
  obtain ⟨k, h⟩ := P a0 a1 w0
  refine (crossroadlaw01_AsciiNumbers.calls k a0 a1 true w h).mono ?_
  rintro e w' ⟨rfl, hd⟩
  exact ⟨rfl, hd⟩

end Go.Proofs.Ytlkknhojfhbopaa.X

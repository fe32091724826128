-- Written for this claim by a program of this session (wip/xprint.py). Not trusted: Lean checks it.
import Derived.Test.YtkdmjkoojipofaaX0
import Derived.Test.YtkdmjkoojipofaaX1
import Derived.Test.YtkdmjkoojipofaaX5
import Derived.Test.YtkdmjkoojipofaaX8
import Derived.Test.YtkdmjkoojipofaaX9
namespace Go.Proofs.Ytkdmjkoojipofaa.X
open Go.RowKit Go.Proofs.YtkdmjkoojipofaaW.PrintWords Go.Proofs.YtkdmjkoojipofaaW.PrintLast Go.Proofs.YtkdmjkoojipofaaW.PrintMore
attribute [local go_sem] max2_int min2_int max_two min_two max_three min_three max_four min_four   -- for this text's walks alone
set_option linter.unusedVariables false
set_option linter.unusedSimpArgs false

/-! ### crossroadlaw03_BodyAny: function 4 -/
mutual
def crossroadlaw03_BodyAny.j0 : Nat → ByteArray → ByteArray → Bool → Option (Bool)
  | 0, _, _, _ => none
  | k + 1, x0, x1, x20 => if x20 = true then (some true) else ((crossroadlaw03_Feed.f k (-1) x0).bind fun bt117 => ((body_Body_Data.f bt117.1).bind fun t119 => ((body_Body_Status.f bt117.1).bind fun t120 => ((body_Body_Done.f bt117.1).bind fun t121 => (if t120 = 0 then (crossroadlaw03_BodyAny.j1 k x1 bt117.1 t119 t120 t121 (decide ((t119.size : Int) > 600))) else (if t120 = 400 then (if t121 = true then (crossroadlaw03_BodyAny.j1 k x1 bt117.1 t119 t120 t121 (decide ((t119.size : Int) > 600))) else (crossroadlaw03_BodyAny.j1 k x1 bt117.1 t119 t120 t121 true)) else (if t120 = 413 then (if t121 = true then (crossroadlaw03_BodyAny.j1 k x1 bt117.1 t119 t120 t121 (decide ((t119.size : Int) > 600))) else (crossroadlaw03_BodyAny.j1 k x1 bt117.1 t119 t120 t121 true)) else (if t120 = 431 then (if t121 = true then (crossroadlaw03_BodyAny.j1 k x1 bt117.1 t119 t120 t121 (decide ((t119.size : Int) > 600))) else (crossroadlaw03_BodyAny.j1 k x1 bt117.1 t119 t120 t121 true)) else (crossroadlaw03_BodyAny.j1 k x1 bt117.1 t119 t120 t121 true)))))))))
def crossroadlaw03_BodyAny.j1 : Nat → ByteArray → BodyS → ByteArray → Int → Bool → Bool → Option (Bool)
  | 0, _, _, _, _, _, _ => none
  | k + 1, x1, x5, x7, x8, x9, x58 => if x58 = true then (some false) else (if x9 = true then (crossroadlaw03_BodyAny.l0 k x1 x5 x7 x8 (x1.size : Int) 0) else (some true))
def crossroadlaw03_BodyAny.l0 : Nat → ByteArray → BodyS → ByteArray → Int → Int → Int → Option (Bool)
  | 0, _, _, _, _, _, _ => none
  | k + 1, x1, x5, x7, x8, x61, x62 => if x62 < x61 then (if 0 ≤ x62 then (if x62 < (x1.size : Int) then ((body_Body_Feed.f k x5 (bt x1 x62)).bind fun t122 => (crossroadlaw03_BodyAny.l0 k x1 t122 x7 x8 x61 (wrap64 (x62 + 1)))) else (none)) else (none)) else ((body_Body_Data.f x5).bind fun t123 => (if t123.toList = x7.toList then ((body_Body_Status.f x5).bind fun t124 => (if t124 = x8 then ((body_Body_Done.f x5).bind fun t125 => (some t125)) else (some false))) else (some false)))
end
def crossroadlaw03_BodyAny.f (k : Nat) (a0 : ByteArray) (a1 : ByteArray) : Option (Bool) := (crossroadlaw03_fit.f k).bind fun t116 => (if t116 = true then (if (a0.size : Int) > 3000 then (crossroadlaw03_BodyAny.j0 k a0 a1 true) else (crossroadlaw03_BodyAny.j0 k a0 a1 (decide ((a1.size : Int) > 300)))) else (some false))
theorem crossroadlaw03_BodyAny.mono_l : ∀ k, (∀ y0 y1 y2, LeO (crossroadlaw03_BodyAny.j0 k y0 y1 y2) (crossroadlaw03_BodyAny.j0 (k + 1) y0 y1 y2)) ∧ (∀ y0 y1 y2 y3 y4 y5, LeO (crossroadlaw03_BodyAny.j1 k y0 y1 y2 y3 y4 y5) (crossroadlaw03_BodyAny.j1 (k + 1) y0 y1 y2 y3 y4 y5)) ∧ (∀ y0 y1 y2 y3 y4 y5, LeO (crossroadlaw03_BodyAny.l0 k y0 y1 y2 y3 y4 y5) (crossroadlaw03_BodyAny.l0 (k + 1) y0 y1 y2 y3 y4 y5))
  | 0 => ⟨fun _ _ _ r h => by simp [crossroadlaw03_BodyAny.j0] at h, fun _ _ _ _ _ _ r h => by simp [crossroadlaw03_BodyAny.j1] at h, fun _ _ _ _ _ _ r h => by simp [crossroadlaw03_BodyAny.l0] at h⟩
  | k + 1 => by
    obtain ⟨ih0, ih1, ih2⟩ := crossroadlaw03_BodyAny.mono_l k
    refine ⟨?_, ?_, ?_⟩
    · intro y0 y1 y2
      unfold crossroadlaw03_BodyAny.j0
      repeat' first
      | (with_reducible exact ih0 _ _ _)
      | (with_reducible exact ih1 _ _ _ _ _ _)
      | (with_reducible exact ih2 _ _ _ _ _ _)
      | (with_reducible exact body_Body_Feed.mono _ _ _)
      | (with_reducible exact crossroadlaw03_Feed.mono _ _ _)
      | (with_reducible exact crossroadlaw03_fit.mono _)
      | (with_reducible exact LeO.refl _)
      | (with_reducible exact LeO.none _)
      | (with_reducible refine LeO.ite ?_ ?_)
      | (with_reducible refine LeO.bind ?_ (fun _ => ?_))
      | exact ih0 _ _ _
      | exact ih1 _ _ _ _ _ _
      | exact ih2 _ _ _ _ _ _
      | exact body_Body_Feed.mono _ _ _
      | exact crossroadlaw03_Feed.mono _ _ _
      | exact crossroadlaw03_fit.mono _
      | exact LeO.none _
      | refine LeO.ite ?_ ?_
      | refine LeO.bind ?_ (fun _ => ?_)
    · intro y0 y1 y2 y3 y4 y5
      unfold crossroadlaw03_BodyAny.j1
      repeat' first
      | (with_reducible exact ih0 _ _ _)
      | (with_reducible exact ih1 _ _ _ _ _ _)
      | (with_reducible exact ih2 _ _ _ _ _ _)
      | (with_reducible exact body_Body_Feed.mono _ _ _)
      | (with_reducible exact crossroadlaw03_Feed.mono _ _ _)
      | (with_reducible exact crossroadlaw03_fit.mono _)
      | (with_reducible exact LeO.refl _)
      | (with_reducible exact LeO.none _)
      | (with_reducible refine LeO.ite ?_ ?_)
      | (with_reducible refine LeO.bind ?_ (fun _ => ?_))
      | exact ih0 _ _ _
      | exact ih1 _ _ _ _ _ _
      | exact ih2 _ _ _ _ _ _
      | exact body_Body_Feed.mono _ _ _
      | exact crossroadlaw03_Feed.mono _ _ _
      | exact crossroadlaw03_fit.mono _
      | exact LeO.none _
      | refine LeO.ite ?_ ?_
      | refine LeO.bind ?_ (fun _ => ?_)
    · intro y0 y1 y2 y3 y4 y5
      unfold crossroadlaw03_BodyAny.l0
      repeat' first
      | (with_reducible exact ih0 _ _ _)
      | (with_reducible exact ih1 _ _ _ _ _ _)
      | (with_reducible exact ih2 _ _ _ _ _ _)
      | (with_reducible exact body_Body_Feed.mono _ _ _)
      | (with_reducible exact crossroadlaw03_Feed.mono _ _ _)
      | (with_reducible exact crossroadlaw03_fit.mono _)
      | (with_reducible exact LeO.refl _)
      | (with_reducible exact LeO.none _)
      | (with_reducible refine LeO.ite ?_ ?_)
      | (with_reducible refine LeO.bind ?_ (fun _ => ?_))
      | exact ih0 _ _ _
      | exact ih1 _ _ _ _ _ _
      | exact ih2 _ _ _ _ _ _
      | exact body_Body_Feed.mono _ _ _
      | exact crossroadlaw03_Feed.mono _ _ _
      | exact crossroadlaw03_fit.mono _
      | exact LeO.none _
      | refine LeO.ite ?_ ?_
      | refine LeO.bind ?_ (fun _ => ?_)
theorem crossroadlaw03_BodyAny.mono : ∀ a0 a1 k, LeO (crossroadlaw03_BodyAny.f k a0 a1) (crossroadlaw03_BodyAny.f (k + 1) a0 a1) := by
  intro a0 a1 k
  obtain ⟨ih0, ih1, ih2⟩ := crossroadlaw03_BodyAny.mono_l k
  unfold crossroadlaw03_BodyAny.f
  repeat' first
      | (with_reducible exact ih0 _ _ _)
      | (with_reducible exact ih1 _ _ _ _ _ _)
      | (with_reducible exact ih2 _ _ _ _ _ _)
      | (with_reducible exact body_Body_Feed.mono _ _ _)
      | (with_reducible exact crossroadlaw03_Feed.mono _ _ _)
      | (with_reducible exact crossroadlaw03_fit.mono _)
      | (with_reducible exact LeO.refl _)
      | (with_reducible exact LeO.none _)
      | (with_reducible refine LeO.ite ?_ ?_)
      | (with_reducible refine LeO.bind ?_ (fun _ => ?_))
      | exact ih0 _ _ _
      | exact ih1 _ _ _ _ _ _
      | exact ih2 _ _ _ _ _ _
      | exact body_Body_Feed.mono _ _ _
      | exact crossroadlaw03_Feed.mono _ _ _
      | exact crossroadlaw03_fit.mono _
      | exact LeO.none _
      | refine LeO.ite ?_ ?_
      | refine LeO.bind ?_ (fun _ => ?_)
set_option maxHeartbeats 8000000 in
set_option maxRecDepth 100000 in
theorem crossroadlaw03_BodyAny.calls (k : Nat) (a0 : ByteArray) (a1 : ByteArray) (r : Bool) (w : World) (h : crossroadlaw03_BodyAny.f k a0 a1 = some r) :
    Calls Try.prog 4 #[.string a0, .string a1] w fun e w' => e = .returned (.bool r) ∧ Below w.heap.size w w' := by
  have HB := Aside0.mk (Below.refl w.heap.size w)
  have H : ((crossroadlaw03_fit.f k).bind fun t116 => (if t116 = true then (if (a0.size : Int) > 3000 then (crossroadlaw03_BodyAny.j0 k a0 a1 true) else (crossroadlaw03_BodyAny.j0 k a0 a1 (decide ((a1.size : Int) > 300)))) else (some false))) = some r := h
  clear h
  replace H := Option.bind_eq_some_iff.mp H
  obtain ⟨t116, A30, H⟩ := H
  replace H : (if t116 = true then (if (a0.size : Int) > 3000 then (crossroadlaw03_BodyAny.j0 k a0 a1 true) else (crossroadlaw03_BodyAny.j0 k a0 a1 (decide ((a1.size : Int) > 300)))) else (some false)) = some r := H
  have A3 := Aside0.mk A30
  clear A30
  by_cases c4 : t116 = true
  · subst c4
    have H1 : (if (a0.size : Int) > 3000 then (crossroadlaw03_BodyAny.j0 k a0 a1 true) else (crossroadlaw03_BodyAny.j0 k a0 a1 (decide ((a1.size : Int) > 300)))) = some r := by rw [if_pos rfl] at H; exact H
    clear H
    have H := H1
    clear H1
    have HC5 := Aside0.mk H
    clear H
    go_enter Try.func4, Try.ntmps4
    go_upto_region 3 with (first | ((with_reducible refine gate_callee (f := 9) rfl ?_); refine goesL_ (some 11) rfl rfl Try.func9 (by kernel_rfl) rfl #[] rfl (by (try simp only [List.map_toArray, List.map_cons, List.map_nil]); first | done | rfl | (simp only [List.length_drop, List.length_take]; rfl)) ?_; (with_reducible refine (crossroadlaw03_fit.calls k  true _ A3.out).mono ?_); rintro e w6 ⟨rfl, hb⟩; (try (have nM_ := Aside0.mk (BodyOwn.below (by repeat (first | exact HOB.out | refine BodyOwn.drewN ?_ | refine BodyOwn.alloc ?_ | refine BodyOwn.drew ?_)) hb); clear HOB; have HOB := nM_; clear nM_)); refine ⟨_, rfl, ?_⟩; have n0_ := Aside0.mk (below_step (by repeat (first | (with_reducible first | exact HB.out | apply below_alloc | apply pw_below_drewN | apply below_drew1) | exact HB.out)) hb); clear HB; have HB := n0_; clear n0_; (try clear hb); (try clear hb2); (try clear hk); (try clear hi)))
    (try simp only [Act.put, List.setIfInBounds_toArray, List.set_cons_zero, List.set_cons_succ])
    go_cut [20] (fun v20 wc => ∃ (kq : Nat) (x20_4 : Bool), v20 = .bool x20_4 ∧ Aside0 (crossroadlaw03_BodyAny.j0 kq a0 a1 x20_4 = some r) ∧ Aside0 (kq ≤ k) ∧ Aside0 (Below w.heap.size w wc))
    case first =>
      have H := HC5.out
      clear HC5
      by_cases c7 : (a0.size : Int) > 3000
      · rw [if_pos c7] at H
        have c7b0 : decide (3000 < (a0.size : Int)) = true := decide_eq_true c7
        have c7b1 : decide (3000 < a0.size) = true := decide_eq_true (by omega)
        clear c7
        (first | rw [c7b0] | (simp only [i64_w, i32_w]; rw [c7b0]) | skip)
        have H' := Aside0.mk H
        clear H
        go_wp2
        go_meet
        case rel => exact ⟨_, (true), (by first | rfl | (simp; done) | (simp [*]; done)), H', ⟨by first | omega | exact Nat.le_refl _⟩, ⟨by repeat (first | (with_reducible first | exact HB.out | apply below_alloc | apply pw_below_drewN | apply below_drew1) | exact HB.out)⟩⟩
      · rw [if_neg c7] at H
        have c7b0 : decide (3000 < (a0.size : Int)) = false := decide_eq_false c7
        have c7b1 : decide (3000 < a0.size) = false := decide_eq_false (by omega)
        clear c7
        (first | rw [c7b0] | (simp only [i64_w, i32_w]; rw [c7b0]) | skip)
        have H' := Aside0.mk H
        clear H
        go_wp2
        go_meet
        case rel => exact ⟨_, (decide ((a1.size : Int) > 300)), (by first | rfl | (simp; done) | (simp [*]; done)), H', ⟨by first | omega | exact Nat.le_refl _⟩, ⟨by repeat (first | (with_reducible first | exact HB.out | apply below_alloc | apply pw_below_drewN | apply below_drew1) | exact HB.out)⟩⟩
    case rest =>
      clear HC5
      try clear p2
      try clear c4
      try clear c7
      try clear c7b0
      try clear c7b1
      obtain ⟨kq, x20_4, rfl, HA, HJ4, HB⟩ := hcut
      cases kq with
      | zero => exact absurd HA.out (by simp [crossroadlaw03_BodyAny.j0])
      | succ kj4 =>
        have H := HA.out
        clear HA
        simp only [crossroadlaw03_BodyAny.j0] at H
        by_cases c8 : x20_4 = true
        · subst c8
          have H1 : (some true) = some r := by rw [if_pos rfl] at H; exact H
          clear H
          have H := H1
          clear H1
          obtain rfl := Option.some.inj H
          go_wp2
          go_ret
          exact ⟨by first | rfl | (simp [errW_none, errW_some] <;> rfl) | (simp [*, errW_none, errW_some] <;> rfl), by repeat (first | (with_reducible first | exact HB.out | apply below_alloc | apply pw_below_drewN | apply below_drew1) | exact HB.out)⟩
        · replace c8 := Bool.eq_false_iff.mpr c8
          subst c8
          have H1 : ((crossroadlaw03_Feed.f kj4 (-1) a0).bind fun bt117 => ((body_Body_Data.f bt117.1).bind fun t119 => ((body_Body_Status.f bt117.1).bind fun t120 => ((body_Body_Done.f bt117.1).bind fun t121 => (if t120 = 0 then (crossroadlaw03_BodyAny.j1 kj4 a1 bt117.1 t119 t120 t121 (decide ((t119.size : Int) > 600))) else (if t120 = 400 then (if t121 = true then (crossroadlaw03_BodyAny.j1 kj4 a1 bt117.1 t119 t120 t121 (decide ((t119.size : Int) > 600))) else (crossroadlaw03_BodyAny.j1 kj4 a1 bt117.1 t119 t120 t121 true)) else (if t120 = 413 then (if t121 = true then (crossroadlaw03_BodyAny.j1 kj4 a1 bt117.1 t119 t120 t121 (decide ((t119.size : Int) > 600))) else (crossroadlaw03_BodyAny.j1 kj4 a1 bt117.1 t119 t120 t121 true)) else (if t120 = 431 then (if t121 = true then (crossroadlaw03_BodyAny.j1 kj4 a1 bt117.1 t119 t120 t121 (decide ((t119.size : Int) > 600))) else (crossroadlaw03_BodyAny.j1 kj4 a1 bt117.1 t119 t120 t121 true)) else (crossroadlaw03_BodyAny.j1 kj4 a1 bt117.1 t119 t120 t121 true))))))))) = some r := by rw [if_neg (show ¬ (false = true) by decide)] at H; exact H
          clear H
          have H := H1
          clear H1
          replace H := Option.bind_eq_some_iff.mp H
          obtain ⟨⟨t117, t118⟩, A90, H⟩ := H
          replace H : ((body_Body_Data.f t117).bind fun t119 => ((body_Body_Status.f t117).bind fun t120 => ((body_Body_Done.f t117).bind fun t121 => (if t120 = 0 then (crossroadlaw03_BodyAny.j1 kj4 a1 t117 t119 t120 t121 (decide ((t119.size : Int) > 600))) else (if t120 = 400 then (if t121 = true then (crossroadlaw03_BodyAny.j1 kj4 a1 t117 t119 t120 t121 (decide ((t119.size : Int) > 600))) else (crossroadlaw03_BodyAny.j1 kj4 a1 t117 t119 t120 t121 true)) else (if t120 = 413 then (if t121 = true then (crossroadlaw03_BodyAny.j1 kj4 a1 t117 t119 t120 t121 (decide ((t119.size : Int) > 600))) else (crossroadlaw03_BodyAny.j1 kj4 a1 t117 t119 t120 t121 true)) else (if t120 = 431 then (if t121 = true then (crossroadlaw03_BodyAny.j1 kj4 a1 t117 t119 t120 t121 (decide ((t119.size : Int) > 600))) else (crossroadlaw03_BodyAny.j1 kj4 a1 t117 t119 t120 t121 true)) else (crossroadlaw03_BodyAny.j1 kj4 a1 t117 t119 t120 t121 true)))))))) = some r := H
          have A9 := Aside0.mk A90
          clear A90
          replace H := Option.bind_eq_some_iff.mp H
          obtain ⟨t119, A100, H⟩ := H
          replace H : ((body_Body_Status.f t117).bind fun t120 => ((body_Body_Done.f t117).bind fun t121 => (if t120 = 0 then (crossroadlaw03_BodyAny.j1 kj4 a1 t117 t119 t120 t121 (decide ((t119.size : Int) > 600))) else (if t120 = 400 then (if t121 = true then (crossroadlaw03_BodyAny.j1 kj4 a1 t117 t119 t120 t121 (decide ((t119.size : Int) > 600))) else (crossroadlaw03_BodyAny.j1 kj4 a1 t117 t119 t120 t121 true)) else (if t120 = 413 then (if t121 = true then (crossroadlaw03_BodyAny.j1 kj4 a1 t117 t119 t120 t121 (decide ((t119.size : Int) > 600))) else (crossroadlaw03_BodyAny.j1 kj4 a1 t117 t119 t120 t121 true)) else (if t120 = 431 then (if t121 = true then (crossroadlaw03_BodyAny.j1 kj4 a1 t117 t119 t120 t121 (decide ((t119.size : Int) > 600))) else (crossroadlaw03_BodyAny.j1 kj4 a1 t117 t119 t120 t121 true)) else (crossroadlaw03_BodyAny.j1 kj4 a1 t117 t119 t120 t121 true))))))) = some r := H
          have A10 := Aside0.mk A100
          clear A100
          replace H := Option.bind_eq_some_iff.mp H
          obtain ⟨t120, A110, H⟩ := H
          replace H : ((body_Body_Done.f t117).bind fun t121 => (if t120 = 0 then (crossroadlaw03_BodyAny.j1 kj4 a1 t117 t119 t120 t121 (decide ((t119.size : Int) > 600))) else (if t120 = 400 then (if t121 = true then (crossroadlaw03_BodyAny.j1 kj4 a1 t117 t119 t120 t121 (decide ((t119.size : Int) > 600))) else (crossroadlaw03_BodyAny.j1 kj4 a1 t117 t119 t120 t121 true)) else (if t120 = 413 then (if t121 = true then (crossroadlaw03_BodyAny.j1 kj4 a1 t117 t119 t120 t121 (decide ((t119.size : Int) > 600))) else (crossroadlaw03_BodyAny.j1 kj4 a1 t117 t119 t120 t121 true)) else (if t120 = 431 then (if t121 = true then (crossroadlaw03_BodyAny.j1 kj4 a1 t117 t119 t120 t121 (decide ((t119.size : Int) > 600))) else (crossroadlaw03_BodyAny.j1 kj4 a1 t117 t119 t120 t121 true)) else (crossroadlaw03_BodyAny.j1 kj4 a1 t117 t119 t120 t121 true)))))) = some r := H
          have A11 := Aside0.mk A110
          clear A110
          replace H := Option.bind_eq_some_iff.mp H
          obtain ⟨t121, A120, H⟩ := H
          replace H : (if t120 = 0 then (crossroadlaw03_BodyAny.j1 kj4 a1 t117 t119 t120 t121 (decide ((t119.size : Int) > 600))) else (if t120 = 400 then (if t121 = true then (crossroadlaw03_BodyAny.j1 kj4 a1 t117 t119 t120 t121 (decide ((t119.size : Int) > 600))) else (crossroadlaw03_BodyAny.j1 kj4 a1 t117 t119 t120 t121 true)) else (if t120 = 413 then (if t121 = true then (crossroadlaw03_BodyAny.j1 kj4 a1 t117 t119 t120 t121 (decide ((t119.size : Int) > 600))) else (crossroadlaw03_BodyAny.j1 kj4 a1 t117 t119 t120 t121 true)) else (if t120 = 431 then (if t121 = true then (crossroadlaw03_BodyAny.j1 kj4 a1 t117 t119 t120 t121 (decide ((t119.size : Int) > 600))) else (crossroadlaw03_BodyAny.j1 kj4 a1 t117 t119 t120 t121 true)) else (crossroadlaw03_BodyAny.j1 kj4 a1 t117 t119 t120 t121 true))))) = some r := H
          have A12 := Aside0.mk A120
          clear A120
          have HC13 := Aside0.mk H
          clear H
          go_upto_region 7 with (first | ((with_reducible refine gate_callee (f := 10) rfl ?_); refine goesL_ (some 23) rfl rfl Try.func10 (by kernel_rfl) rfl #[.int .i64 (-1), .string a0] rfl (by (try simp only [List.map_toArray, List.map_cons, List.map_nil]); first | done | rfl | (simp only [List.length_drop, List.length_take]; rfl)) ?_; (with_reducible refine (crossroadlaw03_Feed.calls kj4 (-1) a0 t117 t118 _ A9.out).mono ?_); rintro e w14 ⟨VO, rfl, hO_, hb⟩; have HOB := Aside0.mk (BodyOwn.less hO_ (below_size (by repeat (first | (with_reducible first | exact HB.out | apply below_alloc | apply pw_below_drewN | apply below_drew1) | exact HB.out)))); clear hO_; refine ⟨_, rfl, ?_⟩; have n0_ := Aside0.mk (below_step (by repeat (first | (with_reducible first | exact HB.out | apply below_alloc | apply pw_below_drewN | apply below_drew1) | exact HB.out)) hb); clear HB; have HB := n0_; clear n0_; (try clear hb); (try clear hb2); (try clear hk); (try clear hi)) | ((with_reducible refine gate_callee (f := 12) rfl ?_); refine goesL_ (some 27) rfl rfl Try.func12 (by kernel_rfl) rfl #[VO] rfl (by (try simp only [List.map_toArray, List.map_cons, List.map_nil]); first | done | rfl | (simp only [List.length_drop, List.length_take]; rfl)) ?_; (refine (body_Body_Data.calls VO (bas w.heap.size) t117 t119 _ (by repeat (first | exact HOB.out | refine BodyOwn.drewN ?_ | refine BodyOwn.alloc ?_ | refine BodyOwn.drew ?_)) A10.out).mono ?_); rintro e w' ⟨rfl, ⟨nd, rfl⟩⟩; refine ⟨_, rfl, ?_⟩) | ((with_reducible refine gate_callee (f := 11) rfl ?_); refine goesL_ (some 29) rfl rfl Try.func11 (by kernel_rfl) rfl #[VO] rfl (by (try simp only [List.map_toArray, List.map_cons, List.map_nil]); first | done | rfl | (simp only [List.length_drop, List.length_take]; rfl)) ?_; (refine (body_Body_Status.calls VO (bas w.heap.size) t117 t120 _ (by repeat (first | exact HOB.out | refine BodyOwn.drewN ?_ | refine BodyOwn.alloc ?_ | refine BodyOwn.drew ?_)) A11.out).mono ?_); rintro e w' ⟨rfl, ⟨nd, rfl⟩⟩; refine ⟨_, rfl, ?_⟩) | ((with_reducible refine gate_callee (f := 13) rfl ?_); refine goesL_ (some 31) rfl rfl Try.func13 (by kernel_rfl) rfl #[VO] rfl (by (try simp only [List.map_toArray, List.map_cons, List.map_nil]); first | done | rfl | (simp only [List.length_drop, List.length_take]; rfl)) ?_; (refine (body_Body_Done.calls VO (bas w.heap.size) t117 t121 _ (by repeat (first | exact HOB.out | refine BodyOwn.drewN ?_ | refine BodyOwn.alloc ?_ | refine BodyOwn.drew ?_)) A12.out).mono ?_); rintro e w' ⟨rfl, ⟨nd, rfl⟩⟩; refine ⟨_, rfl, ?_⟩))
          (try simp only [Act.put, List.setIfInBounds_toArray, List.set_cons_zero, List.set_cons_succ])
          go_cut [58] (fun v58 wc => ∃ (kq : Nat) (x58_12 : Bool), v58 = .bool x58_12 ∧ Aside0 (crossroadlaw03_BodyAny.j1 kq a1 t117 t119 t120 t121 x58_12 = some r) ∧ Aside0 (kq ≤ kj4) ∧ Aside0 (BodyOwn wc (bas w.heap.size) VO t117) ∧ Aside0 (Below w.heap.size w wc))
          case first =>
            have H := HC13.out
            clear HC13
            by_cases c15 : t120 = 0
            · rw [if_pos c15] at H
              have c15b0 : (t120 == 0) = true := beq_iff_eq.mpr c15
              have c15b1 : (t120 != 0) = false := bne_eq_false_iff_eq.mpr c15
              clear c15
              (first | rw [c15b0] | (simp only [i64_w, i32_w]; rw [c15b0]) | skip)
              have H' := Aside0.mk H
              clear H
              go_wp2
              go_meet
              case rel => exact ⟨_, (decide ((t119.size : Int) > 600)), (by first | rfl | (simp; done) | (simp [*]; done)), H', ⟨by have := HJ4.out; first | omega | exact Nat.le_refl _⟩, ⟨(by repeat (first | exact HOB.out | refine BodyOwn.drewN ?_ | refine BodyOwn.alloc ?_ | refine BodyOwn.drew ?_))⟩, ⟨by repeat (first | (with_reducible first | exact HB.out | apply below_alloc | apply pw_below_drewN | apply below_drew1) | exact HB.out)⟩⟩
            · rw [if_neg c15] at H
              have c15b0 : (t120 == 0) = false := beq_eq_false_iff_ne.mpr c15
              have c15b1 : (t120 != 0) = true := bne_iff_ne.mpr c15
              (first | rw [c15b0] | (simp only [i64_w, i32_w]; rw [c15b0]) | skip)
              by_cases c16 : t120 = 400
              · rw [if_pos c16] at H
                have c16b0 : (t120 == 400) = true := beq_iff_eq.mpr c16
                have c16b1 : (t120 != 400) = false := bne_eq_false_iff_eq.mpr c16
                clear c16
                by_cases c17 : t121 = true
                · subst c17
                  have H1 : (crossroadlaw03_BodyAny.j1 kj4 a1 t117 t119 t120 true (decide ((t119.size : Int) > 600))) = some r := by rw [if_pos rfl] at H; exact H
                  clear H
                  have H := H1
                  clear H1
                  have H' := Aside0.mk H
                  clear H
                  go_wp2
                  go_meet
                  case rel => exact ⟨_, (decide ((t119.size : Int) > 600)), (by first | rfl | (simp; done) | (simp [*]; done)), H', ⟨by have := HJ4.out; first | omega | exact Nat.le_refl _⟩, ⟨(by repeat (first | exact HOB.out | refine BodyOwn.drewN ?_ | refine BodyOwn.alloc ?_ | refine BodyOwn.drew ?_))⟩, ⟨by repeat (first | (with_reducible first | exact HB.out | apply below_alloc | apply pw_below_drewN | apply below_drew1) | exact HB.out)⟩⟩
                · replace c17 := Bool.eq_false_iff.mpr c17
                  subst c17
                  have H1 : (crossroadlaw03_BodyAny.j1 kj4 a1 t117 t119 t120 false true) = some r := by rw [if_neg (show ¬ (false = true) by decide)] at H; exact H
                  clear H
                  have H := H1
                  clear H1
                  have H' := Aside0.mk H
                  clear H
                  go_wp2
                  go_meet
                  case rel => exact ⟨_, (true), (by first | rfl | (simp; done) | (simp [*]; done)), H', ⟨by have := HJ4.out; first | omega | exact Nat.le_refl _⟩, ⟨(by repeat (first | exact HOB.out | refine BodyOwn.drewN ?_ | refine BodyOwn.alloc ?_ | refine BodyOwn.drew ?_))⟩, ⟨by repeat (first | (with_reducible first | exact HB.out | apply below_alloc | apply pw_below_drewN | apply below_drew1) | exact HB.out)⟩⟩
              · rw [if_neg c16] at H
                have c16b0 : (t120 == 400) = false := beq_eq_false_iff_ne.mpr c16
                have c16b1 : (t120 != 400) = true := bne_iff_ne.mpr c16
                by_cases c18 : t120 = 413
                · rw [if_pos c18] at H
                  have c18b0 : (t120 == 413) = true := beq_iff_eq.mpr c18
                  have c18b1 : (t120 != 413) = false := bne_eq_false_iff_eq.mpr c18
                  clear c18
                  by_cases c19 : t121 = true
                  · subst c19
                    have H1 : (crossroadlaw03_BodyAny.j1 kj4 a1 t117 t119 t120 true (decide ((t119.size : Int) > 600))) = some r := by rw [if_pos rfl] at H; exact H
                    clear H
                    have H := H1
                    clear H1
                    have H' := Aside0.mk H
                    clear H
                    go_wp2
                    go_meet
                    case rel => exact ⟨_, (decide ((t119.size : Int) > 600)), (by first | rfl | (simp; done) | (simp [*]; done)), H', ⟨by have := HJ4.out; first | omega | exact Nat.le_refl _⟩, ⟨(by repeat (first | exact HOB.out | refine BodyOwn.drewN ?_ | refine BodyOwn.alloc ?_ | refine BodyOwn.drew ?_))⟩, ⟨by repeat (first | (with_reducible first | exact HB.out | apply below_alloc | apply pw_below_drewN | apply below_drew1) | exact HB.out)⟩⟩
                  · replace c19 := Bool.eq_false_iff.mpr c19
                    subst c19
                    have H1 : (crossroadlaw03_BodyAny.j1 kj4 a1 t117 t119 t120 false true) = some r := by rw [if_neg (show ¬ (false = true) by decide)] at H; exact H
                    clear H
                    have H := H1
                    clear H1
                    have H' := Aside0.mk H
                    clear H
                    go_wp2
                    go_meet
                    case rel => exact ⟨_, (true), (by first | rfl | (simp; done) | (simp [*]; done)), H', ⟨by have := HJ4.out; first | omega | exact Nat.le_refl _⟩, ⟨(by repeat (first | exact HOB.out | refine BodyOwn.drewN ?_ | refine BodyOwn.alloc ?_ | refine BodyOwn.drew ?_))⟩, ⟨by repeat (first | (with_reducible first | exact HB.out | apply below_alloc | apply pw_below_drewN | apply below_drew1) | exact HB.out)⟩⟩
                · rw [if_neg c18] at H
                  have c18b0 : (t120 == 413) = false := beq_eq_false_iff_ne.mpr c18
                  have c18b1 : (t120 != 413) = true := bne_iff_ne.mpr c18
                  by_cases c20 : t120 = 431
                  · rw [if_pos c20] at H
                    have c20b0 : (t120 == 431) = true := beq_iff_eq.mpr c20
                    have c20b1 : (t120 != 431) = false := bne_eq_false_iff_eq.mpr c20
                    clear c20
                    by_cases c21 : t121 = true
                    · subst c21
                      have H1 : (crossroadlaw03_BodyAny.j1 kj4 a1 t117 t119 t120 true (decide ((t119.size : Int) > 600))) = some r := by rw [if_pos rfl] at H; exact H
                      clear H
                      have H := H1
                      clear H1
                      have H' := Aside0.mk H
                      clear H
                      go_wp2
                      go_meet
                      case rel => exact ⟨_, (decide ((t119.size : Int) > 600)), (by first | rfl | (simp; done) | (simp [*]; done)), H', ⟨by have := HJ4.out; first | omega | exact Nat.le_refl _⟩, ⟨(by repeat (first | exact HOB.out | refine BodyOwn.drewN ?_ | refine BodyOwn.alloc ?_ | refine BodyOwn.drew ?_))⟩, ⟨by repeat (first | (with_reducible first | exact HB.out | apply below_alloc | apply pw_below_drewN | apply below_drew1) | exact HB.out)⟩⟩
                    · replace c21 := Bool.eq_false_iff.mpr c21
                      subst c21
                      have H1 : (crossroadlaw03_BodyAny.j1 kj4 a1 t117 t119 t120 false true) = some r := by rw [if_neg (show ¬ (false = true) by decide)] at H; exact H
                      clear H
                      have H := H1
                      clear H1
                      have H' := Aside0.mk H
                      clear H
                      go_wp2
                      go_meet
                      case rel => exact ⟨_, (true), (by first | rfl | (simp; done) | (simp [*]; done)), H', ⟨by have := HJ4.out; first | omega | exact Nat.le_refl _⟩, ⟨(by repeat (first | exact HOB.out | refine BodyOwn.drewN ?_ | refine BodyOwn.alloc ?_ | refine BodyOwn.drew ?_))⟩, ⟨by repeat (first | (with_reducible first | exact HB.out | apply below_alloc | apply pw_below_drewN | apply below_drew1) | exact HB.out)⟩⟩
                  · rw [if_neg c20] at H
                    have c20b0 : (t120 == 431) = false := beq_eq_false_iff_ne.mpr c20
                    have c20b1 : (t120 != 431) = true := bne_iff_ne.mpr c20
                    have H' := Aside0.mk H
                    clear H
                    go_wp2
                    go_meet
                    case rel => exact ⟨_, (true), (by first | rfl | (simp; done) | (simp [*]; done)), H', ⟨by have := HJ4.out; first | omega | exact Nat.le_refl _⟩, ⟨(by repeat (first | exact HOB.out | refine BodyOwn.drewN ?_ | refine BodyOwn.alloc ?_ | refine BodyOwn.drew ?_))⟩, ⟨by repeat (first | (with_reducible first | exact HB.out | apply below_alloc | apply pw_below_drewN | apply below_drew1) | exact HB.out)⟩⟩
          case rest =>
            clear HC13
            try clear c1
            try clear c2
            try clear p2
            try clear c4
            try clear c7
            try clear c7b0
            try clear c7b1
            try clear c8
            try clear c9
            try clear c10
            try clear c11
            try clear c12
            try clear c13
            try clear c15
            try clear c15b0
            try clear c15b1
            try clear c16
            try clear c16b0
            try clear c16b1
            try clear c17
            try clear c18
            try clear c18b0
            try clear c18b1
            try clear c19
            try clear c20
            try clear c20b0
            try clear c20b1
            try clear c21
            try clear p2
            obtain ⟨kq, x58_12, rfl, HA, HJ12, HOB, HB⟩ := hcut
            cases kq with
            | zero => exact absurd HA.out (by simp [crossroadlaw03_BodyAny.j1])
            | succ kj12 =>
              have H := HA.out
              clear HA
              simp only [crossroadlaw03_BodyAny.j1] at H
              by_cases c22 : x58_12 = true
              · subst c22
                have H1 : (some false) = some r := by rw [if_pos rfl] at H; exact H
                clear H
                have H := H1
                clear H1
                obtain rfl := Option.some.inj H
                go_wp2
                go_ret
                exact ⟨by first | rfl | (simp [errW_none, errW_some] <;> rfl) | (simp [*, errW_none, errW_some] <;> rfl), by repeat (first | (with_reducible first | exact HB.out | apply below_alloc | apply pw_below_drewN | apply below_drew1) | exact HB.out)⟩
              · replace c22 := Bool.eq_false_iff.mpr c22
                subst c22
                have H1 : (if t121 = true then (crossroadlaw03_BodyAny.l0 kj12 a1 t117 t119 t120 (a1.size : Int) 0) else (some true)) = some r := by rw [if_neg (show ¬ (false = true) by decide)] at H; exact H
                clear H
                have H := H1
                clear H1
                by_cases c23 : t121 = true
                · subst c23
                  have H1 : (crossroadlaw03_BodyAny.l0 kj12 a1 t117 t119 t120 (a1.size : Int) 0) = some r := by rw [if_pos rfl] at H; exact H
                  clear H
                  have H := H1
                  clear H1
                  have H' := Aside0.mk H
                  clear H
                  go_wp2
                  go_loopg [62] kj12 (fun kq v62 w' => ∃ (x5_3 : BodyS) (x62_3 : Int), v62 = .int .i64 x62_3 ∧ Aside0 (crossroadlaw03_BodyAny.l0 kq a1 x5_3 t119 t120 (a1.size : Int) x62_3 = some r) ∧ Aside0 (kq ≤ kj12) ∧ Aside0 (BodyOwn w' (bas w.heap.size) VO x5_3) ∧ Aside0 (Below w.heap.size w w'))
                  case atStart => exact ⟨(t117), (0), (by first | rfl | (simp; done) | (simp [*]; done)), H', ⟨Nat.le_refl _⟩, ⟨(by repeat (first | exact HOB.out | refine BodyOwn.drewN ?_ | refine BodyOwn.alloc ?_ | refine BodyOwn.drew ?_))⟩, ⟨by repeat (first | (with_reducible first | exact HB.out | apply below_alloc | apply pw_below_drewN | apply below_drew1) | exact HB.out)⟩⟩
                  case round =>
                    clear H'
                    try clear c1
                    try clear c2
                    try clear p2
                    try clear c4
                    try clear c7
                    try clear c7b0
                    try clear c7b1
                    try clear c8
                    try clear c9
                    try clear c10
                    try clear c11
                    try clear c12
                    try clear c13
                    try clear c15
                    try clear c15b0
                    try clear c15b1
                    try clear c16
                    try clear c16b0
                    try clear c16b1
                    try clear c17
                    try clear c18
                    try clear c18b0
                    try clear c18b1
                    try clear c19
                    try clear c20
                    try clear c20b0
                    try clear c20b1
                    try clear c21
                    try clear c22
                    try clear c23
                    try clear p2
                    obtain ⟨x5_3, x62_3, rfl, HA, HK3, HOB, HB⟩ := hrel
                    cases gk with
                    | zero => exact absurd HA.out (by simp [crossroadlaw03_BodyAny.l0])
                    | succ k3 =>
                      have H := HA.out
                      clear HA
                      simp only [crossroadlaw03_BodyAny.l0] at H
                      by_cases c24 : x62_3 < (a1.size : Int)
                      · rw [if_pos c24] at H
                        have c24b0 : decide (x62_3 < (a1.size : Int)) = true := decide_eq_true c24
                        clear c24
                        by_cases c25 : 0 ≤ x62_3
                        · rw [if_pos c25] at H
                          have c25b0 : decide (0 ≤ x62_3) = true := decide_eq_true c25
                          clear c25
                          by_cases c26 : x62_3 < (a1.size : Int)
                          · rw [if_pos c26] at H
                            have c26b0 : decide (x62_3 < (a1.size : Int)) = true := decide_eq_true c26
                            clear c26
                            replace H := Option.bind_eq_some_iff.mp H
                            obtain ⟨t122, A280, H⟩ := H
                            replace H : (crossroadlaw03_BodyAny.l0 k3 a1 t122 t119 t120 (a1.size : Int) (wrap64 (x62_3 + 1))) = some r := H
                            have A28 := Aside0.mk A280
                            clear A280
                            have H' := Aside0.mk H
                            clear H
                            have p27 : 0 ≤ (x62_3 : Int) := of_decide_eq_true (by first | (with_reducible assumption) | assumption)
                            have q27 : x62_3 < (a1.size : Int) := of_decide_eq_true (by first | (with_reducible assumption) | assumption)
                            have hx27 := bt_at a1 x62_3
                            replace p27 := eq_true p27
                            replace q27 := eq_true q27
                            go_wp2_with (first | ((with_reducible refine gate_callee (f := 14) rfl ?_); refine goesL_ (some 69) rfl rfl Try.func14 (by kernel_rfl) rfl #[VO, .int .u8 (bt a1 x62_3)] rfl (by (try simp only [List.map_toArray, List.map_cons, List.map_nil]); first | done | rfl | (simp only [List.length_drop, List.length_take]; rfl)) ?_; (refine (body_Body_Feed.calls k3 VO (bas w.heap.size) x5_3 (bt a1 x62_3) t122 _ (by repeat (first | exact HOB.out | refine BodyOwn.drewN ?_ | refine BodyOwn.alloc ?_ | refine BodyOwn.drew ?_)) A28.out).mono ?_); rintro e w29 ⟨rfl, hO_, hb⟩; clear HOB; have HOB := Aside0.mk hO_; clear hO_; refine ⟨_, rfl, ?_⟩; have n0_ := Aside0.mk (Below.trans (by repeat (first | (with_reducible first | exact HB.out | apply below_alloc | apply pw_below_drewN | apply below_drew1) | exact HB.out)) hb); clear HB; have HB := n0_; clear n0_; (try clear hb); (try clear hb2); (try clear hk); (try clear hi)))
                            go_roundg k3
                            case measure => have := HJ4.out; have := HJ12.out; have := HK3.out; omega
                            case rel => exact ⟨(t122), (wrap64 (x62_3 + 1)), (by first | rfl | (simp; done) | (simp [*]; done)), H', ⟨by have := HJ4.out; have := HJ12.out; have := HK3.out; omega⟩, ⟨(by repeat (first | exact HOB.out | refine BodyOwn.drewN ?_ | refine BodyOwn.alloc ?_ | refine BodyOwn.drew ?_))⟩, ⟨by repeat (first | (with_reducible first | exact HB.out | apply below_alloc | apply pw_below_drewN | apply below_drew1) | exact HB.out)⟩⟩
                          · rw [if_neg c26] at H
                            exact absurd H (by simp)
                        · rw [if_neg c25] at H
                          exact absurd H (by simp)
                      · rw [if_neg c24] at H
                        have c24b0 : decide (x62_3 < (a1.size : Int)) = false := decide_eq_false c24
                        clear c24
                        replace H := Option.bind_eq_some_iff.mp H
                        obtain ⟨t123, A300, H⟩ := H
                        replace H : (if t123.toList = t119.toList then ((body_Body_Status.f x5_3).bind fun t124 => (if t124 = t120 then ((body_Body_Done.f x5_3).bind fun t125 => (some t125)) else (some false))) else (some false)) = some r := H
                        have A30 := Aside0.mk A300
                        clear A300
                        by_cases c31 : t123.toList = t119.toList
                        · rw [if_pos c31] at H
                          have c31b0 : (t123.toList == t119.toList) = true := beq_iff_eq.mpr c31
                          have c31b1 : (t123.toList != t119.toList) = false := bne_eq_false_iff_eq.mpr c31
                          clear c31
                          replace H := Option.bind_eq_some_iff.mp H
                          obtain ⟨t124, A320, H⟩ := H
                          replace H : (if t124 = t120 then ((body_Body_Done.f x5_3).bind fun t125 => (some t125)) else (some false)) = some r := H
                          have A32 := Aside0.mk A320
                          clear A320
                          by_cases c33 : t124 = t120
                          · rw [if_pos c33] at H
                            have c33b0 : (t124 == t120) = true := beq_iff_eq.mpr c33
                            have c33b1 : (t124 != t120) = false := bne_eq_false_iff_eq.mpr c33
                            clear c33
                            replace H := Option.bind_eq_some_iff.mp H
                            obtain ⟨t125, A340, H⟩ := H
                            replace H : (some t125) = some r := H
                            have A34 := Aside0.mk A340
                            clear A340
                            obtain rfl := Option.some.inj H
                            go_wp2_with (first | ((with_reducible refine gate_callee (f := 12) rfl ?_); refine goesL_ (some 72) rfl rfl Try.func12 (by kernel_rfl) rfl #[VO] rfl (by (try simp only [List.map_toArray, List.map_cons, List.map_nil]); first | done | rfl | (simp only [List.length_drop, List.length_take]; rfl)) ?_; (refine (body_Body_Data.calls VO (bas w.heap.size) x5_3 t123 _ (by repeat (first | exact HOB.out | refine BodyOwn.drewN ?_ | refine BodyOwn.alloc ?_ | refine BodyOwn.drew ?_)) A30.out).mono ?_); rintro e w' ⟨rfl, ⟨nd, rfl⟩⟩; refine ⟨_, rfl, ?_⟩) | (go_at_call 11; (refine (body_Body_Status.calls VO (bas w.heap.size) x5_3 t124 _ (by repeat (first | exact HOB.out | refine BodyOwn.drewN ?_ | refine BodyOwn.alloc ?_ | refine BodyOwn.drew ?_)) A32.out).mono ?_); rintro e w' ⟨rfl, ⟨nd, rfl⟩⟩) | (go_at_call 13; (refine (body_Body_Done.calls VO (bas w.heap.size) x5_3 t125 _ (by repeat (first | exact HOB.out | refine BodyOwn.drewN ?_ | refine BodyOwn.alloc ?_ | refine BodyOwn.drew ?_)) A34.out).mono ?_); rintro e w' ⟨rfl, ⟨nd, rfl⟩⟩))
                            go_ret
                            exact ⟨by first | rfl | (simp [errW_none, errW_some] <;> rfl) | (simp [*, errW_none, errW_some] <;> rfl), by repeat (first | (with_reducible first | exact HB.out | apply below_alloc | apply pw_below_drewN | apply below_drew1) | exact HB.out)⟩
                          · rw [if_neg c33] at H
                            have c33b0 : (t124 == t120) = false := beq_eq_false_iff_ne.mpr c33
                            have c33b1 : (t124 != t120) = true := bne_iff_ne.mpr c33
                            obtain rfl := Option.some.inj H
                            go_wp2_with (first | ((with_reducible refine gate_callee (f := 12) rfl ?_); refine goesL_ (some 72) rfl rfl Try.func12 (by kernel_rfl) rfl #[VO] rfl (by (try simp only [List.map_toArray, List.map_cons, List.map_nil]); first | done | rfl | (simp only [List.length_drop, List.length_take]; rfl)) ?_; (refine (body_Body_Data.calls VO (bas w.heap.size) x5_3 t123 _ (by repeat (first | exact HOB.out | refine BodyOwn.drewN ?_ | refine BodyOwn.alloc ?_ | refine BodyOwn.drew ?_)) A30.out).mono ?_); rintro e w' ⟨rfl, ⟨nd, rfl⟩⟩; refine ⟨_, rfl, ?_⟩) | (go_at_call 11; (refine (body_Body_Status.calls VO (bas w.heap.size) x5_3 t124 _ (by repeat (first | exact HOB.out | refine BodyOwn.drewN ?_ | refine BodyOwn.alloc ?_ | refine BodyOwn.drew ?_)) A32.out).mono ?_); rintro e w' ⟨rfl, ⟨nd, rfl⟩⟩))
                            go_ret
                            exact ⟨by first | rfl | (simp [errW_none, errW_some] <;> rfl) | (simp [*, errW_none, errW_some] <;> rfl), by repeat (first | (with_reducible first | exact HB.out | apply below_alloc | apply pw_below_drewN | apply below_drew1) | exact HB.out)⟩
                        · rw [if_neg c31] at H
                          have c31b0 : (t123.toList == t119.toList) = false := beq_eq_false_iff_ne.mpr c31
                          have c31b1 : (t123.toList != t119.toList) = true := bne_iff_ne.mpr c31
                          obtain rfl := Option.some.inj H
                          go_wp2_with (first | ((with_reducible refine gate_callee (f := 12) rfl ?_); refine goesL_ (some 72) rfl rfl Try.func12 (by kernel_rfl) rfl #[VO] rfl (by (try simp only [List.map_toArray, List.map_cons, List.map_nil]); first | done | rfl | (simp only [List.length_drop, List.length_take]; rfl)) ?_; (refine (body_Body_Data.calls VO (bas w.heap.size) x5_3 t123 _ (by repeat (first | exact HOB.out | refine BodyOwn.drewN ?_ | refine BodyOwn.alloc ?_ | refine BodyOwn.drew ?_)) A30.out).mono ?_); rintro e w' ⟨rfl, ⟨nd, rfl⟩⟩; refine ⟨_, rfl, ?_⟩))
                          go_ret
                          exact ⟨by first | rfl | (simp [errW_none, errW_some] <;> rfl) | (simp [*, errW_none, errW_some] <;> rfl), by repeat (first | (with_reducible first | exact HB.out | apply below_alloc | apply pw_below_drewN | apply below_drew1) | exact HB.out)⟩
                · replace c23 := Bool.eq_false_iff.mpr c23
                  subst c23
                  have H1 : (some true) = some r := by rw [if_neg (show ¬ (false = true) by decide)] at H; exact H
                  clear H
                  have H := H1
                  clear H1
                  obtain rfl := Option.some.inj H
                  go_wp2
                  go_ret
                  exact ⟨by first | rfl | (simp [errW_none, errW_some] <;> rfl) | (simp [*, errW_none, errW_some] <;> rfl), by repeat (first | (with_reducible first | exact HB.out | apply below_alloc | apply pw_below_drewN | apply below_drew1) | exact HB.out)⟩
  · replace c4 := Bool.eq_false_iff.mpr c4
    subst c4
    have H1 : (some false) = some r := by rw [if_neg (show ¬ (false = true) by decide)] at H; exact H
    clear H
    have H := H1
    clear H1
    obtain rfl := Option.some.inj H
    go_enter Try.func4, Try.ntmps4
    go_wp2_with (first | ((with_reducible refine gate_callee (f := 9) rfl ?_); refine goesL_ (some 11) rfl rfl Try.func9 (by kernel_rfl) rfl #[] rfl (by (try simp only [List.map_toArray, List.map_cons, List.map_nil]); first | done | rfl | (simp only [List.length_drop, List.length_take]; rfl)) ?_; (with_reducible refine (crossroadlaw03_fit.calls k  false _ A3.out).mono ?_); rintro e w35 ⟨rfl, hb⟩; (try (have nM_ := Aside0.mk (BodyOwn.below (by repeat (first | exact HOB.out | refine BodyOwn.drewN ?_ | refine BodyOwn.alloc ?_ | refine BodyOwn.drew ?_)) hb); clear HOB; have HOB := nM_; clear nM_)); refine ⟨_, rfl, ?_⟩; have n0_ := Aside0.mk (below_step (by repeat (first | (with_reducible first | exact HB.out | apply below_alloc | apply pw_below_drewN | apply below_drew1) | exact HB.out)) hb); clear HB; have HB := n0_; clear n0_; (try clear hb); (try clear hb2); (try clear hk); (try clear hi)))
    go_ret
    exact ⟨by first | rfl | (simp [errW_none, errW_some] <;> rfl) | (simp [*, errW_none, errW_some] <;> rfl), by repeat (first | (with_reducible first | exact HB.out | apply below_alloc | apply pw_below_drewN | apply below_drew1) | exact HB.out)⟩

/-- THE ONE PURE STATEMENT of crossroadlaw03_BodyAny: yours. -/
def crossroadlaw03_BodyAny.Pure : Prop := ∀ (a0 : ByteArray) (a1 : ByteArray), a0.size ≤ 140737488351232 → a1.size ≤ 140737488351232 → ∃ k, crossroadlaw03_BodyAny.f k a0 a1 = some true
theorem crossroadlaw03_BodyAny.walk (P : crossroadlaw03_BodyAny.Pure) (a0 : ByteArray) (a1 : ByteArray) (w : World) (w0 : a0.size ≤ 140737488351232) (w1 : a1.size ≤ 140737488351232) :
    Calls Try.prog 4 #[.string a0, .string a1] w fun e w' => e = .returned (.bool true) ∧ Below w.heap.size w w' := by
  obtain ⟨k, h⟩ := P a0 a1 w0 w1
  refine (crossroadlaw03_BodyAny.calls k a0 a1 true w h).mono ?_
  rintro e w' ⟨rfl, hd⟩
  exact ⟨rfl, hd⟩

end Go.Proofs.Ytkdmjkoojipofaa.X

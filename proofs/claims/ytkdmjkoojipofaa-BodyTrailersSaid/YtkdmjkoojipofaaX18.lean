-- Written for this claim by a program of this session (wip/xprint.py). Not trusted: Lean checks it.
import Derived.Test.YtkdmjkoojipofaaX0
import Derived.Test.YtkdmjkoojipofaaX1
import Derived.Test.YtkdmjkoojipofaaX8
import Derived.Test.YtkdmjkoojipofaaX9
import Derived.Test.YtkdmjkoojipofaaX16
namespace Go.Proofs.Ytkdmjkoojipofaa.X
open Go.RowKit Go.Proofs.YtkdmjkoojipofaaW.PrintWords Go.Proofs.YtkdmjkoojipofaaW.PrintLast Go.Proofs.YtkdmjkoojipofaaW.PrintMore
attribute [local go_sem] max2_int min2_int max_two min_two max_three min_three max_four min_four   -- for this text's walks alone
set_option linter.unusedVariables false
set_option linter.unusedSimpArgs false

/-! ### crossroadlaw03_BodyTrailers: function 8 -/
mutual
def crossroadlaw03_BodyTrailers.j0 : Nat → ByteArray → List ByteArray → ByteArray → Bool → Option (Bool)
  | 0, _, _, _, _ => none
  | k + 1, x0, x1, x2, x27 => if x27 = true then (some true) else ((body_Chunks.f k x0 7).bind fun t170 => (if 0 ≤ (wrap64 ((t170.size : Int) - 2)) then (if (wrap64 ((t170.size : Int) - 2)) ≤ (t170.size : Int) then (crossroadlaw03_BodyTrailers.l0 k x0 x2 (t170.extract 0 ((wrap64 ((t170.size : Int) - 2)) : Int).toNat) x1 (x1.length : Int) 0) else (none)) else (none)))
def crossroadlaw03_BodyTrailers.l0 : Nat → ByteArray → ByteArray → ByteArray → List ByteArray → Int → Int → Option (Bool)
  | 0, _, _, _, _, _, _ => none
  | k + 1, x0, x2, x7, x35, x36, x37 => if x37 < x36 then (if 0 ≤ x37 then (if x37 < (x35.length : Int) then (if (rdOf ByteArray.empty x35 x37).toList = ([] : List UInt8) then (crossroadlaw03_BodyTrailers.j2 k x0 x2 x7 (rdOf ByteArray.empty x35 x37) x35 x36 x37 true) else (crossroadlaw03_BodyTrailers.j2 k x0 x2 x7 (rdOf ByteArray.empty x35 x37) x35 x36 x37 (decide (((rdOf ByteArray.empty x35 x37).size : Int) > 100)))) else (none)) else (none)) else (if x7.size + 2 ≤ 9223372036854775807 then (if (x7 ++ (⟨#[13, 10]⟩ : ByteArray)).size + x2.size ≤ 9223372036854775807 then ((crossroadlaw03_Feed.f k (-1) ((x7 ++ (⟨#[13, 10]⟩ : ByteArray)) ++ x2)).bind fun bt172 => ((body_Body_Done.f bt172.1).bind fun t174 => (if t174 = true then ((body_Body_Status.f bt172.1).bind fun t175 => (if t175 = 0 then ((body_Body_Data.f bt172.1).bind fun t176 => (if t176.toList = x0.toList then (some (bt172.2 == ((x7 ++ (⟨#[13, 10]⟩ : ByteArray)).size : Int))) else (some false))) else (some false))) else (some false)))) else (none)) else (none))
def crossroadlaw03_BodyTrailers.j2 : Nat → ByteArray → ByteArray → ByteArray → ByteArray → List ByteArray → Int → Int → Bool → Option (Bool)
  | 0, _, _, _, _, _, _, _, _ => none
  | k + 1, x0, x2, x7, x9, x35, x36, x37, x47 => if x47 = true then (some true) else (crossroadlaw03_BodyTrailers.l1 k x0 x2 x7 x9 x35 x36 x37 (x9.size : Int) 0)
def crossroadlaw03_BodyTrailers.l1 : Nat → ByteArray → ByteArray → ByteArray → ByteArray → List ByteArray → Int → Int → Int → Int → Option (Bool)
  | 0, _, _, _, _, _, _, _, _, _ => none
  | k + 1, x0, x2, x7, x9, x35, x36, x37, x49, x50 => if x50 < x49 then (if 0 ≤ x50 then (if x50 < (x9.size : Int) then (if (bt x9 x50) = 13 then (some true) else (if (bt x9 x50) = 10 then (some true) else (crossroadlaw03_BodyTrailers.l1 k x0 x2 x7 x9 x35 x36 x37 x49 (wrap64 (x50 + 1))))) else (none)) else (none)) else (if x9.size + 2 ≤ 9223372036854775807 then (if x7.size + (x9 ++ (⟨#[13, 10]⟩ : ByteArray)).size ≤ 9223372036854775807 then (crossroadlaw03_BodyTrailers.l0 k x0 x2 (x7 ++ (x9 ++ (⟨#[13, 10]⟩ : ByteArray))) x35 x36 (wrap64 (x37 + 1))) else (none)) else (none))
end
def crossroadlaw03_BodyTrailers.f (k : Nat) (a0 : ByteArray) (l1 : List ByteArray) (a2 : ByteArray) : Option (Bool) := (crossroadlaw03_fit.f k).bind fun t169 => (if t169 = true then (if (a0.size : Int) > 500 then (crossroadlaw03_BodyTrailers.j0 k a0 l1 a2 true) else (if (l1.length : Int) > 10 then (crossroadlaw03_BodyTrailers.j0 k a0 l1 a2 true) else (crossroadlaw03_BodyTrailers.j0 k a0 l1 a2 (decide ((a2.size : Int) > 100))))) else (some false))
theorem crossroadlaw03_BodyTrailers.mono_l : ∀ k, (∀ y0 y1 y2 y3, LeO (crossroadlaw03_BodyTrailers.j0 k y0 y1 y2 y3) (crossroadlaw03_BodyTrailers.j0 (k + 1) y0 y1 y2 y3)) ∧ (∀ y0 y1 y2 y3 y4 y5, LeO (crossroadlaw03_BodyTrailers.l0 k y0 y1 y2 y3 y4 y5) (crossroadlaw03_BodyTrailers.l0 (k + 1) y0 y1 y2 y3 y4 y5)) ∧ (∀ y0 y1 y2 y3 y4 y5 y6 y7, LeO (crossroadlaw03_BodyTrailers.j2 k y0 y1 y2 y3 y4 y5 y6 y7) (crossroadlaw03_BodyTrailers.j2 (k + 1) y0 y1 y2 y3 y4 y5 y6 y7)) ∧ (∀ y0 y1 y2 y3 y4 y5 y6 y7 y8, LeO (crossroadlaw03_BodyTrailers.l1 k y0 y1 y2 y3 y4 y5 y6 y7 y8) (crossroadlaw03_BodyTrailers.l1 (k + 1) y0 y1 y2 y3 y4 y5 y6 y7 y8))
  | 0 => ⟨fun _ _ _ _ r h => by simp [crossroadlaw03_BodyTrailers.j0] at h, fun _ _ _ _ _ _ r h => by simp [crossroadlaw03_BodyTrailers.l0] at h, fun _ _ _ _ _ _ _ _ r h => by simp [crossroadlaw03_BodyTrailers.j2] at h, fun _ _ _ _ _ _ _ _ _ r h => by simp [crossroadlaw03_BodyTrailers.l1] at h⟩
  | k + 1 => by
    obtain ⟨ih0, ih1, ih2, ih3⟩ := crossroadlaw03_BodyTrailers.mono_l k
    refine ⟨?_, ?_, ?_, ?_⟩
    · intro y0 y1 y2 y3
      unfold crossroadlaw03_BodyTrailers.j0
      repeat' first
      | (with_reducible exact ih0 _ _ _ _)
      | (with_reducible exact ih1 _ _ _ _ _ _)
      | (with_reducible exact ih2 _ _ _ _ _ _ _ _)
      | (with_reducible exact ih3 _ _ _ _ _ _ _ _ _)
      | (with_reducible exact body_Chunks.mono _ _ _)
      | (with_reducible exact crossroadlaw03_Feed.mono _ _ _)
      | (with_reducible exact crossroadlaw03_fit.mono _)
      | (with_reducible exact LeO.refl _)
      | (with_reducible exact LeO.none _)
      | (with_reducible refine LeO.ite ?_ ?_)
      | (with_reducible refine LeO.bind ?_ (fun _ => ?_))
      | exact ih0 _ _ _ _
      | exact ih1 _ _ _ _ _ _
      | exact ih2 _ _ _ _ _ _ _ _
      | exact ih3 _ _ _ _ _ _ _ _ _
      | exact body_Chunks.mono _ _ _
      | exact crossroadlaw03_Feed.mono _ _ _
      | exact crossroadlaw03_fit.mono _
      | exact LeO.none _
      | refine LeO.ite ?_ ?_
      | refine LeO.bind ?_ (fun _ => ?_)
    · intro y0 y1 y2 y3 y4 y5
      unfold crossroadlaw03_BodyTrailers.l0
      repeat' first
      | (with_reducible exact ih0 _ _ _ _)
      | (with_reducible exact ih1 _ _ _ _ _ _)
      | (with_reducible exact ih2 _ _ _ _ _ _ _ _)
      | (with_reducible exact ih3 _ _ _ _ _ _ _ _ _)
      | (with_reducible exact body_Chunks.mono _ _ _)
      | (with_reducible exact crossroadlaw03_Feed.mono _ _ _)
      | (with_reducible exact crossroadlaw03_fit.mono _)
      | (with_reducible exact LeO.refl _)
      | (with_reducible exact LeO.none _)
      | (with_reducible refine LeO.ite ?_ ?_)
      | (with_reducible refine LeO.bind ?_ (fun _ => ?_))
      | exact ih0 _ _ _ _
      | exact ih1 _ _ _ _ _ _
      | exact ih2 _ _ _ _ _ _ _ _
      | exact ih3 _ _ _ _ _ _ _ _ _
      | exact body_Chunks.mono _ _ _
      | exact crossroadlaw03_Feed.mono _ _ _
      | exact crossroadlaw03_fit.mono _
      | exact LeO.none _
      | refine LeO.ite ?_ ?_
      | refine LeO.bind ?_ (fun _ => ?_)
    · intro y0 y1 y2 y3 y4 y5 y6 y7
      unfold crossroadlaw03_BodyTrailers.j2
      repeat' first
      | (with_reducible exact ih0 _ _ _ _)
      | (with_reducible exact ih1 _ _ _ _ _ _)
      | (with_reducible exact ih2 _ _ _ _ _ _ _ _)
      | (with_reducible exact ih3 _ _ _ _ _ _ _ _ _)
      | (with_reducible exact body_Chunks.mono _ _ _)
      | (with_reducible exact crossroadlaw03_Feed.mono _ _ _)
      | (with_reducible exact crossroadlaw03_fit.mono _)
      | (with_reducible exact LeO.refl _)
      | (with_reducible exact LeO.none _)
      | (with_reducible refine LeO.ite ?_ ?_)
      | (with_reducible refine LeO.bind ?_ (fun _ => ?_))
      | exact ih0 _ _ _ _
      | exact ih1 _ _ _ _ _ _
      | exact ih2 _ _ _ _ _ _ _ _
      | exact ih3 _ _ _ _ _ _ _ _ _
      | exact body_Chunks.mono _ _ _
      | exact crossroadlaw03_Feed.mono _ _ _
      | exact crossroadlaw03_fit.mono _
      | exact LeO.none _
      | refine LeO.ite ?_ ?_
      | refine LeO.bind ?_ (fun _ => ?_)
    · intro y0 y1 y2 y3 y4 y5 y6 y7 y8
      unfold crossroadlaw03_BodyTrailers.l1
      repeat' first
      | (with_reducible exact ih0 _ _ _ _)
      | (with_reducible exact ih1 _ _ _ _ _ _)
      | (with_reducible exact ih2 _ _ _ _ _ _ _ _)
      | (with_reducible exact ih3 _ _ _ _ _ _ _ _ _)
      | (with_reducible exact body_Chunks.mono _ _ _)
      | (with_reducible exact crossroadlaw03_Feed.mono _ _ _)
      | (with_reducible exact crossroadlaw03_fit.mono _)
      | (with_reducible exact LeO.refl _)
      | (with_reducible exact LeO.none _)
      | (with_reducible refine LeO.ite ?_ ?_)
      | (with_reducible refine LeO.bind ?_ (fun _ => ?_))
      | exact ih0 _ _ _ _
      | exact ih1 _ _ _ _ _ _
      | exact ih2 _ _ _ _ _ _ _ _
      | exact ih3 _ _ _ _ _ _ _ _ _
      | exact body_Chunks.mono _ _ _
      | exact crossroadlaw03_Feed.mono _ _ _
      | exact crossroadlaw03_fit.mono _
      | exact LeO.none _
      | refine LeO.ite ?_ ?_
      | refine LeO.bind ?_ (fun _ => ?_)
theorem crossroadlaw03_BodyTrailers.mono : ∀ a0 a1 a2 k, LeO (crossroadlaw03_BodyTrailers.f k a0 a1 a2) (crossroadlaw03_BodyTrailers.f (k + 1) a0 a1 a2) := by
  intro a0 a1 a2 k
  obtain ⟨ih0, ih1, ih2, ih3⟩ := crossroadlaw03_BodyTrailers.mono_l k
  unfold crossroadlaw03_BodyTrailers.f
  repeat' first
      | (with_reducible exact ih0 _ _ _ _)
      | (with_reducible exact ih1 _ _ _ _ _ _)
      | (with_reducible exact ih2 _ _ _ _ _ _ _ _)
      | (with_reducible exact ih3 _ _ _ _ _ _ _ _ _)
      | (with_reducible exact body_Chunks.mono _ _ _)
      | (with_reducible exact crossroadlaw03_Feed.mono _ _ _)
      | (with_reducible exact crossroadlaw03_fit.mono _)
      | (with_reducible exact LeO.refl _)
      | (with_reducible exact LeO.none _)
      | (with_reducible refine LeO.ite ?_ ?_)
      | (with_reducible refine LeO.bind ?_ (fun _ => ?_))
      | exact ih0 _ _ _ _
      | exact ih1 _ _ _ _ _ _
      | exact ih2 _ _ _ _ _ _ _ _
      | exact ih3 _ _ _ _ _ _ _ _ _
      | exact body_Chunks.mono _ _ _
      | exact crossroadlaw03_Feed.mono _ _ _
      | exact crossroadlaw03_fit.mono _
      | exact LeO.none _
      | refine LeO.ite ?_ ?_
      | refine LeO.bind ?_ (fun _ => ?_)
set_option maxHeartbeats 8000000 in
set_option maxRecDepth 100000 in
theorem crossroadlaw03_BodyTrailers.calls (k : Nat) (a0 : ByteArray) (A1 : Option Addr) (c1 : Nat) (l1 : List ByteArray) (a2 : ByteArray) (r : Bool) (w : World) (hr1 : Kd.C Kd.string w A1 l1.length l1) (hc1 : l1.length ≤ c1) (h : crossroadlaw03_BodyTrailers.f k a0 l1 a2 = some r) :
    Calls Try.prog 8 #[.string a0, .slice A1 l1.length c1, .string a2] w fun e w' => e = .returned (.bool r) ∧ Below w.heap.size w w' := by
  have HR1 := Aside0.mk hr1
  have HC1 := Aside0.mk hc1
  clear hr1 hc1
  have HB := Aside0.mk (Below.refl w.heap.size w)
  have H : ((crossroadlaw03_fit.f k).bind fun t169 => (if t169 = true then (if (a0.size : Int) > 500 then (crossroadlaw03_BodyTrailers.j0 k a0 l1 a2 true) else (if (l1.length : Int) > 10 then (crossroadlaw03_BodyTrailers.j0 k a0 l1 a2 true) else (crossroadlaw03_BodyTrailers.j0 k a0 l1 a2 (decide ((a2.size : Int) > 100))))) else (some false))) = some r := h
  clear h
  replace H := Option.bind_eq_some_iff.mp H
  obtain ⟨t169, A40, H⟩ := H
  replace H : (if t169 = true then (if (a0.size : Int) > 500 then (crossroadlaw03_BodyTrailers.j0 k a0 l1 a2 true) else (if (l1.length : Int) > 10 then (crossroadlaw03_BodyTrailers.j0 k a0 l1 a2 true) else (crossroadlaw03_BodyTrailers.j0 k a0 l1 a2 (decide ((a2.size : Int) > 100))))) else (some false)) = some r := H
  have A4 := Aside0.mk A40
  clear A40
  by_cases c5 : t169 = true
  · subst c5
    have H1 : (if (a0.size : Int) > 500 then (crossroadlaw03_BodyTrailers.j0 k a0 l1 a2 true) else (if (l1.length : Int) > 10 then (crossroadlaw03_BodyTrailers.j0 k a0 l1 a2 true) else (crossroadlaw03_BodyTrailers.j0 k a0 l1 a2 (decide ((a2.size : Int) > 100))))) = some r := by rw [if_pos rfl] at H; exact H
    clear H
    have H := H1
    clear H1
    have HC6 := Aside0.mk H
    clear H
    go_enter Try.func8, Try.ntmps8
    go_upto_region 3 with (first | ((with_reducible refine gate_callee (f := 9) rfl ?_); refine goesL_ (some 13) rfl rfl Try.func9 (by kernel_rfl) rfl #[] rfl (by (try simp only [List.map_toArray, List.map_cons, List.map_nil]); first | done | rfl | (simp only [List.length_drop, List.length_take]; rfl)) ?_; (with_reducible refine (crossroadlaw03_fit.calls k  true _ A4.out).mono ?_); rintro e w7 ⟨rfl, hb⟩; (try (have nM_ := Aside0.mk (BodyOwn.below (by repeat (first | exact HOB.out | refine BodyOwn.drewN ?_ | refine BodyOwn.alloc ?_ | refine BodyOwn.drew ?_)) hb); clear HOB; have HOB := nM_; clear nM_)); refine ⟨_, rfl, ?_⟩; have n0_ := Aside0.mk (below_step (by repeat (first | (with_reducible first | exact HB.out | apply below_alloc | apply pw_below_drewN | apply below_drew1) | exact HB.out)) hb); clear HB; have HB := n0_; clear n0_; (try clear hb); (try clear hb2); (try clear hk); (try clear hi)))
    (try simp only [Act.put, List.setIfInBounds_toArray, List.set_cons_zero, List.set_cons_succ])
    go_cut [27] (fun v27 wc => ∃ (kq : Nat) (x27_5 : Bool), v27 = .bool x27_5 ∧ Aside0 (crossroadlaw03_BodyTrailers.j0 kq a0 l1 a2 x27_5 = some r) ∧ Aside0 (kq ≤ k) ∧ Aside0 (Below w.heap.size w wc))
    case first =>
      have H := HC6.out
      clear HC6
      by_cases c8 : (a0.size : Int) > 500
      · rw [if_pos c8] at H
        have c8b0 : decide (500 < (a0.size : Int)) = true := decide_eq_true c8
        have c8b1 : decide (500 < a0.size) = true := decide_eq_true (by omega)
        clear c8
        (first | rw [c8b0] | (simp only [i64_w, i32_w]; rw [c8b0]) | skip)
        have H' := Aside0.mk H
        clear H
        go_wp2
        go_meet
        case rel => exact ⟨_, (true), (by first | rfl | (simp; done) | (simp [*]; done)), H', ⟨by first | omega | exact Nat.le_refl _⟩, ⟨by repeat (first | (with_reducible first | exact HB.out | apply below_alloc | apply pw_below_drewN | apply below_drew1) | exact HB.out)⟩⟩
      · rw [if_neg c8] at H
        have c8b0 : decide (500 < (a0.size : Int)) = false := decide_eq_false c8
        have c8b1 : decide (500 < a0.size) = false := decide_eq_false (by omega)
        clear c8
        (first | rw [c8b0] | (simp only [i64_w, i32_w]; rw [c8b0]) | skip)
        by_cases c9 : (l1.length : Int) > 10
        · rw [if_pos c9] at H
          have c9b0 : decide (10 < (l1.length : Int)) = true := decide_eq_true c9
          have c9b1 : decide (10 < l1.length) = true := decide_eq_true (by omega)
          clear c9
          have H' := Aside0.mk H
          clear H
          go_wp2
          go_meet
          case rel => exact ⟨_, (true), (by first | rfl | (simp; done) | (simp [*]; done)), H', ⟨by first | omega | exact Nat.le_refl _⟩, ⟨by repeat (first | (with_reducible first | exact HB.out | apply below_alloc | apply pw_below_drewN | apply below_drew1) | exact HB.out)⟩⟩
        · rw [if_neg c9] at H
          have c9b0 : decide (10 < (l1.length : Int)) = false := decide_eq_false c9
          have c9b1 : decide (10 < l1.length) = false := decide_eq_false (by omega)
          clear c9
          have H' := Aside0.mk H
          clear H
          go_wp2
          go_meet
          case rel => exact ⟨_, (decide ((a2.size : Int) > 100)), (by first | rfl | (simp; done) | (simp [*]; done)), H', ⟨by first | omega | exact Nat.le_refl _⟩, ⟨by repeat (first | (with_reducible first | exact HB.out | apply below_alloc | apply pw_below_drewN | apply below_drew1) | exact HB.out)⟩⟩
    case rest =>
      clear HC6
      try clear c1
      try clear p2
      try clear c5
      try clear c8
      try clear c8b0
      try clear c8b1
      try clear c9
      try clear c9b0
      try clear c9b1
      obtain ⟨kq, x27_5, rfl, HA, HJ5, HB⟩ := hcut
      cases kq with
      | zero => exact absurd HA.out (by simp [crossroadlaw03_BodyTrailers.j0])
      | succ kj5 =>
        have H := HA.out
        clear HA
        simp only [crossroadlaw03_BodyTrailers.j0] at H
        by_cases c10 : x27_5 = true
        · subst c10
          have H1 : (some true) = some r := by rw [if_pos rfl] at H; exact H
          clear H
          have H := H1
          clear H1
          obtain rfl := Option.some.inj H
          go_wp2
          go_ret
          exact ⟨by first | rfl | (simp [errW_none, errW_some] <;> rfl) | (simp [*, errW_none, errW_some] <;> rfl), by repeat (first | (with_reducible first | exact HB.out | apply below_alloc | apply pw_below_drewN | apply below_drew1) | exact HB.out)⟩
        · replace c10 := Bool.eq_false_iff.mpr c10
          subst c10
          have H1 : ((body_Chunks.f kj5 a0 7).bind fun t170 => (if 0 ≤ (wrap64 ((t170.size : Int) - 2)) then (if (wrap64 ((t170.size : Int) - 2)) ≤ (t170.size : Int) then (crossroadlaw03_BodyTrailers.l0 kj5 a0 a2 (t170.extract 0 ((wrap64 ((t170.size : Int) - 2)) : Int).toNat) l1 (l1.length : Int) 0) else (none)) else (none))) = some r := by rw [if_neg (show ¬ (false = true) by decide)] at H; exact H
          clear H
          have H := H1
          clear H1
          replace H := Option.bind_eq_some_iff.mp H
          obtain ⟨t170, A110, H⟩ := H
          replace H : (if 0 ≤ (wrap64 ((t170.size : Int) - 2)) then (if (wrap64 ((t170.size : Int) - 2)) ≤ (t170.size : Int) then (crossroadlaw03_BodyTrailers.l0 kj5 a0 a2 (t170.extract 0 ((wrap64 ((t170.size : Int) - 2)) : Int).toNat) l1 (l1.length : Int) 0) else (none)) else (none)) = some r := H
          have A11 := Aside0.mk A110
          clear A110
          obtain ⟨ji12, hji12⟩ : ∃ j_ : Int, (wrap64 ((t170.size : Int) - 2)) = j_ := ⟨_, rfl⟩
          replace H : (if 0 ≤ (ji12) then (if (ji12) ≤ (t170.size : Int) then (crossroadlaw03_BodyTrailers.l0 kj5 a0 a2 (t170.extract 0 ((ji12) : Int).toNat) l1 (l1.length : Int) 0) else (none)) else (none)) = some r := by first | (rw [hji12] at H; exact H) | (simp only [hji12] at H ⊢; exact H)
          (try rw [hji12] at A11)
          have hji12w : (IntKind.i64.wrap ((t170.size : Int) - 2)) = ji12 := (i64_w _).trans hji12
          by_cases c13 : 0 ≤ (ji12)
          · rw [if_pos c13] at H
            have c13b0 := eq_true c13
            have c13b1 : decide (0 ≤ (ji12)) = true := decide_eq_true c13
            clear c13
            by_cases c14 : (ji12) ≤ (t170.size : Int)
            · rw [if_pos c14] at H
              have c14b0 := eq_true c14
              have c14b1 : decide ((ji12) ≤ (t170.size : Int)) = true := decide_eq_true c14
              clear c14
              have H' := Aside0.mk H
              clear H
              go_wp2_with (first | ((with_reducible refine gate_callee (f := 16) rfl ?_); refine goesL_ (some 29) rfl rfl Try.func16 (by kernel_rfl) rfl #[.string a0, .int .i64 7] rfl (by (try simp only [List.map_toArray, List.map_cons, List.map_nil]); first | done | rfl | (simp only [List.length_drop, List.length_take]; rfl)) ?_; (with_reducible refine (body_Chunks.calls kj5 a0 7 t170 _ A11.out).mono ?_); rintro e w15 ⟨rfl, hb⟩; (try (have nM_ := Aside0.mk (BodyOwn.below (by repeat (first | exact HOB.out | refine BodyOwn.drewN ?_ | refine BodyOwn.alloc ?_ | refine BodyOwn.drew ?_)) hb); clear HOB; have HOB := nM_; clear nM_)); refine ⟨_, rfl, ?_⟩; have n0_ := Aside0.mk (below_step (by repeat (first | (with_reducible first | exact HB.out | apply below_alloc | apply pw_below_drewN | apply below_drew1) | exact HB.out)) hb); clear HB; have HB := n0_; clear n0_; (try clear hb); (try clear hb2); (try clear hk); (try clear hi)))
              go_loopg [7, 37] kj5 (fun kq v7 v37 w' => ∃ (x7_2 : ByteArray) (x37_2 : Int), v7 = .string x7_2 ∧ v37 = .int .i64 x37_2 ∧ Aside0 (crossroadlaw03_BodyTrailers.l0 kq a0 a2 x7_2 l1 (l1.length : Int) x37_2 = some r) ∧ Aside0 (kq ≤ kj5) ∧ Aside0 (Below w.heap.size w w'))
              case atStart => exact ⟨(t170.extract 0 ((ji12) : Int).toNat), (0), (by first | rfl | (simp; done) | (simp only [← hji12] <;> (first | rfl | simp)) | (simp [*]; done)), (by first | rfl | (simp; done) | (simp [*]; done)), H', ⟨Nat.le_refl _⟩, ⟨by repeat (first | (with_reducible first | exact HB.out | apply below_alloc | apply pw_below_drewN | apply below_drew1) | exact HB.out)⟩⟩
              case round =>
                clear H'
                try clear c1
                try clear p2
                try clear c5
                try clear p6
                try clear c8
                try clear c8b0
                try clear c8b1
                try clear c9
                try clear c9b0
                try clear c9b1
                try clear c10
                try clear c13
                try clear c13b0
                try clear c13b1
                try clear c14
                try clear c14b0
                try clear c14b1
                try clear p2
                obtain ⟨x7_2, x37_2, rfl, rfl, HA, HK2, HB⟩ := hrel
                cases gk with
                | zero => exact absurd HA.out (by simp [crossroadlaw03_BodyTrailers.l0])
                | succ k2 =>
                  have H := HA.out
                  clear HA
                  simp only [crossroadlaw03_BodyTrailers.l0] at H
                  by_cases c16 : x37_2 < (l1.length : Int)
                  · rw [if_pos c16] at H
                    have c16b0 : decide (x37_2 < (l1.length : Int)) = true := decide_eq_true c16
                    clear c16
                    by_cases c17 : 0 ≤ x37_2
                    · rw [if_pos c17] at H
                      have c17b0 : decide (0 ≤ x37_2) = true := decide_eq_true c17
                      clear c17
                      by_cases c18 : x37_2 < (l1.length : Int)
                      · rw [if_pos c18] at H
                        have c18b0 : decide (x37_2 < (l1.length : Int)) = true := decide_eq_true c18
                        clear c18
                        have HC19 := Aside0.mk H
                        clear H
                        have p171 : 0 ≤ (x37_2 : Int) := of_decide_eq_true (by first | (with_reducible assumption) | assumption)
                        have q171 : x37_2 < (l1.length : Int) := of_decide_eq_true (by first | (with_reducible assumption) | assumption)
                        obtain ⟨ad171, e171, hx171_0⟩ := Kd.at_string HR1.out x37_2 p171 q171
                        cases e171
                        replace hx171_0 := (HB.out.cell (World.block_lt_of_cell? w _ hx171_0)).trans hx171_0
                        replace p171 := eq_true p171
                        replace q171 := eq_true q171
                        go_upto_region 10 with (fail)
                        go_cut [47] (fun v47 wc => ∃ (kq : Nat) (x47_18 : Bool), v47 = .bool x47_18 ∧ Aside0 (crossroadlaw03_BodyTrailers.j2 kq a0 a2 x7_2 (rdOf ByteArray.empty l1 x37_2) l1 (l1.length : Int) x37_2 x47_18 = some r) ∧ Aside0 (kq ≤ k2) ∧ Aside0 (Below w.heap.size w wc))
                        case first =>
                          have H := HC19.out
                          clear HC19
                          by_cases c20 : (rdOf ByteArray.empty l1 x37_2).toList = ([] : List UInt8)
                          · rw [if_pos c20] at H
                            have c20b0 : ((rdOf ByteArray.empty l1 x37_2).toList == ([] : List UInt8)) = true := beq_iff_eq.mpr c20
                            have c20b1 : ((rdOf ByteArray.empty l1 x37_2).toList != ([] : List UInt8)) = false := bne_eq_false_iff_eq.mpr c20
                            clear c20
                            (first | rw [c20b0] | (simp only [i64_w, i32_w]; rw [c20b0]) | skip)
                            have H' := Aside0.mk H
                            clear H
                            go_wp2
                            go_meet
                            case rel => exact ⟨_, (true), (by first | rfl | (simp; done) | (simp [*]; done)), H', ⟨by have := HJ5.out; have := HK2.out; first | omega | exact Nat.le_refl _⟩, ⟨by repeat (first | (with_reducible first | exact HB.out | apply below_alloc | apply pw_below_drewN | apply below_drew1) | exact HB.out)⟩⟩
                          · rw [if_neg c20] at H
                            have c20b0 : ((rdOf ByteArray.empty l1 x37_2).toList == ([] : List UInt8)) = false := beq_eq_false_iff_ne.mpr c20
                            have c20b1 : ((rdOf ByteArray.empty l1 x37_2).toList != ([] : List UInt8)) = true := bne_iff_ne.mpr c20
                            (first | rw [c20b0] | (simp only [i64_w, i32_w]; rw [c20b0]) | skip)
                            have H' := Aside0.mk H
                            clear H
                            go_wp2
                            go_meet
                            case rel => exact ⟨_, (decide (((rdOf ByteArray.empty l1 x37_2).size : Int) > 100)), (by first | rfl | (simp; done) | (simp [*]; done)), H', ⟨by have := HJ5.out; have := HK2.out; first | omega | exact Nat.le_refl _⟩, ⟨by repeat (first | (with_reducible first | exact HB.out | apply below_alloc | apply pw_below_drewN | apply below_drew1) | exact HB.out)⟩⟩
                        case rest =>
                          clear HC19
                          try clear c1
                          try clear p1
                          try clear q1
                          try clear hx1
                          try clear c2
                          try clear p2
                          try clear c5
                          try clear p6
                          try clear c8
                          try clear c8b0
                          try clear c8b1
                          try clear c9
                          try clear c9b0
                          try clear c9b1
                          try clear c10
                          try clear c13
                          try clear c13b0
                          try clear c13b1
                          try clear c14
                          try clear c14b0
                          try clear c14b1
                          try clear c16
                          try clear c16b0
                          try clear c17
                          try clear c17b0
                          try clear p17
                          try clear q17
                          try clear hx17
                          try clear c18
                          try clear c18b0
                          try clear c20
                          try clear c20b0
                          try clear c20b1
                          try clear hx171_0
                          try clear p171
                          try clear p2
                          try clear p6
                          try clear q171
                          obtain ⟨kq, x47_18, rfl, HA, HJ18, HB⟩ := hcut
                          cases kq with
                          | zero => exact absurd HA.out (by simp [crossroadlaw03_BodyTrailers.j2])
                          | succ kj18 =>
                            have H := HA.out
                            clear HA
                            simp only [crossroadlaw03_BodyTrailers.j2] at H
                            by_cases c21 : x47_18 = true
                            · subst c21
                              have H1 : (some true) = some r := by rw [if_pos rfl] at H; exact H
                              clear H
                              have H := H1
                              clear H1
                              obtain rfl := Option.some.inj H
                              go_wp2
                              go_ret
                              exact ⟨by first | rfl | (simp [errW_none, errW_some] <;> rfl) | (simp only [← hji12]; first | rfl | (simp [errW_none, errW_some] <;> rfl)) | (simp [*, errW_none, errW_some] <;> rfl), by repeat (first | (with_reducible first | exact HB.out | apply below_alloc | apply pw_below_drewN | apply below_drew1) | exact HB.out)⟩
                            · replace c21 := Bool.eq_false_iff.mpr c21
                              subst c21
                              have H1 : (crossroadlaw03_BodyTrailers.l1 kj18 a0 a2 x7_2 (rdOf ByteArray.empty l1 x37_2) l1 (l1.length : Int) x37_2 ((rdOf ByteArray.empty l1 x37_2).size : Int) 0) = some r := by rw [if_neg (show ¬ (false = true) by decide)] at H; exact H
                              clear H
                              have H := H1
                              clear H1
                              have H' := Aside0.mk H
                              clear H
                              go_wp2
                              go_loopg [50] kj18 (fun kq v50 w' => ∃ (x50_4 : Int), v50 = .int .i64 x50_4 ∧ Aside0 (crossroadlaw03_BodyTrailers.l1 kq a0 a2 x7_2 (rdOf ByteArray.empty l1 x37_2) l1 (l1.length : Int) x37_2 ((rdOf ByteArray.empty l1 x37_2).size : Int) x50_4 = some r) ∧ Aside0 (kq ≤ kj18) ∧ Aside0 (Below w.heap.size w w'))
                              case atStart => exact ⟨(0), (by first | rfl | (simp; done) | (simp [*]; done)), H', ⟨Nat.le_refl _⟩, ⟨by repeat (first | (with_reducible first | exact HB.out | apply below_alloc | apply pw_below_drewN | apply below_drew1) | exact HB.out)⟩⟩
                              case round =>
                                clear H'
                                try clear c1
                                try clear p1
                                try clear q1
                                try clear hx1
                                try clear c2
                                try clear p2
                                try clear c5
                                try clear p6
                                try clear c8
                                try clear c8b0
                                try clear c8b1
                                try clear c9
                                try clear c9b0
                                try clear c9b1
                                try clear c10
                                try clear c13
                                try clear c13b0
                                try clear c13b1
                                try clear c14
                                try clear c14b0
                                try clear c14b1
                                try clear c16
                                try clear c16b0
                                try clear c17
                                try clear c17b0
                                try clear p17
                                try clear q17
                                try clear hx17
                                try clear c18
                                try clear c18b0
                                try clear c20
                                try clear c20b0
                                try clear c20b1
                                try clear c21
                                try clear hx171_0
                                try clear p1
                                try clear p17
                                try clear p171
                                try clear p2
                                try clear p6
                                try clear q1
                                try clear q17
                                try clear q171
                                obtain ⟨x50_4, rfl, HA, HK4, HB⟩ := hrel
                                cases gk with
                                | zero => exact absurd HA.out (by simp [crossroadlaw03_BodyTrailers.l1])
                                | succ k4 =>
                                  have H := HA.out
                                  clear HA
                                  simp only [crossroadlaw03_BodyTrailers.l1] at H
                                  by_cases c22 : x50_4 < ((rdOf ByteArray.empty l1 x37_2).size : Int)
                                  · rw [if_pos c22] at H
                                    have c22b0 : decide (x50_4 < ((rdOf ByteArray.empty l1 x37_2).size : Int)) = true := decide_eq_true c22
                                    clear c22
                                    by_cases c23 : 0 ≤ x50_4
                                    · rw [if_pos c23] at H
                                      have c23b0 : decide (0 ≤ x50_4) = true := decide_eq_true c23
                                      clear c23
                                      by_cases c24 : x50_4 < ((rdOf ByteArray.empty l1 x37_2).size : Int)
                                      · rw [if_pos c24] at H
                                        have c24b0 : decide (x50_4 < ((rdOf ByteArray.empty l1 x37_2).size : Int)) = true := decide_eq_true c24
                                        clear c24
                                        by_cases c26 : (bt (rdOf ByteArray.empty l1 x37_2) x50_4) = 13
                                        · rw [if_pos c26] at H
                                          have c26b0 : ((bt (rdOf ByteArray.empty l1 x37_2) x50_4) == 13) = true := beq_iff_eq.mpr c26
                                          have c26b1 : ((bt (rdOf ByteArray.empty l1 x37_2) x50_4) != 13) = false := bne_eq_false_iff_eq.mpr c26
                                          clear c26
                                          obtain rfl := Option.some.inj H
                                          have p25 : 0 ≤ (x50_4 : Int) := of_decide_eq_true (by first | (with_reducible assumption) | assumption)
                                          have q25 : x50_4 < ((rdOf ByteArray.empty l1 x37_2).size : Int) := of_decide_eq_true (by first | (with_reducible assumption) | assumption)
                                          have hx25 := bt_at (rdOf ByteArray.empty l1 x37_2) x50_4
                                          replace p25 := eq_true p25
                                          replace q25 := eq_true q25
                                          go_wp2
                                          go_ret
                                          exact ⟨by first | rfl | (simp [errW_none, errW_some] <;> rfl) | (simp only [← hji12]; first | rfl | (simp [errW_none, errW_some] <;> rfl)) | (simp [*, errW_none, errW_some] <;> rfl), by repeat (first | (with_reducible first | exact HB.out | apply below_alloc | apply pw_below_drewN | apply below_drew1) | exact HB.out)⟩
                                        · rw [if_neg c26] at H
                                          have c26b0 : ((bt (rdOf ByteArray.empty l1 x37_2) x50_4) == 13) = false := beq_eq_false_iff_ne.mpr c26
                                          have c26b1 : ((bt (rdOf ByteArray.empty l1 x37_2) x50_4) != 13) = true := bne_iff_ne.mpr c26
                                          by_cases c28 : (bt (rdOf ByteArray.empty l1 x37_2) x50_4) = 10
                                          · rw [if_pos c28] at H
                                            have c28b0 : ((bt (rdOf ByteArray.empty l1 x37_2) x50_4) == 10) = true := beq_iff_eq.mpr c28
                                            have c28b1 : ((bt (rdOf ByteArray.empty l1 x37_2) x50_4) != 10) = false := bne_eq_false_iff_eq.mpr c28
                                            clear c28
                                            obtain rfl := Option.some.inj H
                                            have p25 : 0 ≤ (x50_4 : Int) := of_decide_eq_true (by first | (with_reducible assumption) | assumption)
                                            have q25 : x50_4 < ((rdOf ByteArray.empty l1 x37_2).size : Int) := of_decide_eq_true (by first | (with_reducible assumption) | assumption)
                                            have hx25 := bt_at (rdOf ByteArray.empty l1 x37_2) x50_4
                                            replace p25 := eq_true p25
                                            replace q25 := eq_true q25
                                            have p27 : 0 ≤ (x50_4 : Int) := of_decide_eq_true (by first | (with_reducible assumption) | assumption)
                                            have q27 : x50_4 < ((rdOf ByteArray.empty l1 x37_2).size : Int) := of_decide_eq_true (by first | (with_reducible assumption) | assumption)
                                            have hx27 := bt_at (rdOf ByteArray.empty l1 x37_2) x50_4
                                            replace p27 := eq_true p27
                                            replace q27 := eq_true q27
                                            go_wp2
                                            go_ret
                                            exact ⟨by first | rfl | (simp [errW_none, errW_some] <;> rfl) | (simp only [← hji12]; first | rfl | (simp [errW_none, errW_some] <;> rfl)) | (simp [*, errW_none, errW_some] <;> rfl), by repeat (first | (with_reducible first | exact HB.out | apply below_alloc | apply pw_below_drewN | apply below_drew1) | exact HB.out)⟩
                                          · rw [if_neg c28] at H
                                            have c28b0 : ((bt (rdOf ByteArray.empty l1 x37_2) x50_4) == 10) = false := beq_eq_false_iff_ne.mpr c28
                                            have c28b1 : ((bt (rdOf ByteArray.empty l1 x37_2) x50_4) != 10) = true := bne_iff_ne.mpr c28
                                            have H' := Aside0.mk H
                                            clear H
                                            have p25 : 0 ≤ (x50_4 : Int) := of_decide_eq_true (by first | (with_reducible assumption) | assumption)
                                            have q25 : x50_4 < ((rdOf ByteArray.empty l1 x37_2).size : Int) := of_decide_eq_true (by first | (with_reducible assumption) | assumption)
                                            have hx25 := bt_at (rdOf ByteArray.empty l1 x37_2) x50_4
                                            replace p25 := eq_true p25
                                            replace q25 := eq_true q25
                                            have p27 : 0 ≤ (x50_4 : Int) := of_decide_eq_true (by first | (with_reducible assumption) | assumption)
                                            have q27 : x50_4 < ((rdOf ByteArray.empty l1 x37_2).size : Int) := of_decide_eq_true (by first | (with_reducible assumption) | assumption)
                                            have hx27 := bt_at (rdOf ByteArray.empty l1 x37_2) x50_4
                                            replace p27 := eq_true p27
                                            replace q27 := eq_true q27
                                            go_wp2
                                            go_roundg k4
                                            case measure => have := HJ5.out; have := HK2.out; have := HJ18.out; have := HK4.out; omega
                                            case rel => exact ⟨(wrap64 (x50_4 + 1)), (by first | rfl | (simp; done) | (simp [*]; done)), H', ⟨by have := HJ5.out; have := HK2.out; have := HJ18.out; have := HK4.out; omega⟩, ⟨by repeat (first | (with_reducible first | exact HB.out | apply below_alloc | apply pw_below_drewN | apply below_drew1) | exact HB.out)⟩⟩
                                      · rw [if_neg c24] at H
                                        exact absurd H (by simp)
                                    · rw [if_neg c23] at H
                                      exact absurd H (by simp)
                                  · rw [if_neg c22] at H
                                    have c22b0 : decide (x50_4 < ((rdOf ByteArray.empty l1 x37_2).size : Int)) = false := decide_eq_false c22
                                    clear c22
                                    by_cases c29 : (rdOf ByteArray.empty l1 x37_2).size + 2 ≤ 9223372036854775807
                                    · rw [if_pos c29] at H
                                      have c29b0 := eq_true c29
                                      have c29b1 : decide ((rdOf ByteArray.empty l1 x37_2).size + 2 ≤ 9223372036854775807) = true := decide_eq_true c29
                                      try have c29b2 : (9223372036854775807 < (rdOf ByteArray.empty l1 x37_2).size + 2) = False := eq_false (Nat.not_lt.2 c29)
                                      by_cases c30 : x7_2.size + ((rdOf ByteArray.empty l1 x37_2) ++ (⟨#[13, 10]⟩ : ByteArray)).size ≤ 9223372036854775807
                                      · rw [if_pos c30] at H
                                        have c30b0 := eq_true c30
                                        have c30b1 : decide (x7_2.size + ((rdOf ByteArray.empty l1 x37_2) ++ (⟨#[13, 10]⟩ : ByteArray)).size ≤ 9223372036854775807) = true := decide_eq_true c30
                                        try have c30b2 : (9223372036854775807 < x7_2.size + ((rdOf ByteArray.empty l1 x37_2) ++ (⟨#[13, 10]⟩ : ByteArray)).size) = False := eq_false (Nat.not_lt.2 c30)
                                        try have c30b3 : (9223372036854775807 < x7_2.size + (rdOf ByteArray.empty l1 x37_2).size + 2) = False := eq_false (by have h_ := c30; simp only [ByteArray.size_append] at h_; have e0_ : (⟨#[13, 10]⟩ : ByteArray).size = 2 := rfl; omega)
                                        have H' := Aside0.mk H
                                        clear H
                                        go_wp2
                                        go_roundg k4
                                        case measure => have := HJ5.out; have := HK2.out; have := HJ18.out; have := HK4.out; omega
                                        case rel => exact ⟨(x7_2 ++ ((rdOf ByteArray.empty l1 x37_2) ++ (⟨#[13, 10]⟩ : ByteArray))), (wrap64 (x37_2 + 1)), (by first | rfl | (simp; done) | (simp [*]; done)), (by first | rfl | (simp; done) | (simp [*]; done)), H', ⟨by have := HJ5.out; have := HK2.out; have := HJ18.out; have := HK4.out; omega⟩, ⟨by repeat (first | (with_reducible first | exact HB.out | apply below_alloc | apply pw_below_drewN | apply below_drew1) | exact HB.out)⟩⟩
                                      · rw [if_neg c30] at H
                                        exact absurd H (by simp)
                                    · rw [if_neg c29] at H
                                      exact absurd H (by simp)
                      · rw [if_neg c18] at H
                        exact absurd H (by simp)
                    · rw [if_neg c17] at H
                      exact absurd H (by simp)
                  · rw [if_neg c16] at H
                    have c16b0 : decide (x37_2 < (l1.length : Int)) = false := decide_eq_false c16
                    clear c16
                    by_cases c31 : x7_2.size + 2 ≤ 9223372036854775807
                    · rw [if_pos c31] at H
                      have c31b0 := eq_true c31
                      have c31b1 : decide (x7_2.size + 2 ≤ 9223372036854775807) = true := decide_eq_true c31
                      try have c31b2 : (9223372036854775807 < x7_2.size + 2) = False := eq_false (Nat.not_lt.2 c31)
                      by_cases c32 : (x7_2 ++ (⟨#[13, 10]⟩ : ByteArray)).size + a2.size ≤ 9223372036854775807
                      · rw [if_pos c32] at H
                        have c32b0 := eq_true c32
                        have c32b1 : decide ((x7_2 ++ (⟨#[13, 10]⟩ : ByteArray)).size + a2.size ≤ 9223372036854775807) = true := decide_eq_true c32
                        try have c32b2 : (9223372036854775807 < (x7_2 ++ (⟨#[13, 10]⟩ : ByteArray)).size + a2.size) = False := eq_false (Nat.not_lt.2 c32)
                        try have c32b3 : (9223372036854775807 < x7_2.size + 2 + a2.size) = False := eq_false (by have h_ := c32; simp only [ByteArray.size_append] at h_; have e0_ : (⟨#[13, 10]⟩ : ByteArray).size = 2 := rfl; omega)
                        replace H := Option.bind_eq_some_iff.mp H
                        obtain ⟨⟨t172, t173⟩, A330, H⟩ := H
                        replace H : ((body_Body_Done.f t172).bind fun t174 => (if t174 = true then ((body_Body_Status.f t172).bind fun t175 => (if t175 = 0 then ((body_Body_Data.f t172).bind fun t176 => (if t176.toList = a0.toList then (some (t173 == ((x7_2 ++ (⟨#[13, 10]⟩ : ByteArray)).size : Int))) else (some false))) else (some false))) else (some false))) = some r := H
                        have A33 := Aside0.mk A330
                        clear A330
                        replace H := Option.bind_eq_some_iff.mp H
                        obtain ⟨t174, A340, H⟩ := H
                        replace H : (if t174 = true then ((body_Body_Status.f t172).bind fun t175 => (if t175 = 0 then ((body_Body_Data.f t172).bind fun t176 => (if t176.toList = a0.toList then (some (t173 == ((x7_2 ++ (⟨#[13, 10]⟩ : ByteArray)).size : Int))) else (some false))) else (some false))) else (some false)) = some r := H
                        have A34 := Aside0.mk A340
                        clear A340
                        by_cases c35 : t174 = true
                        · subst c35
                          have H1 : ((body_Body_Status.f t172).bind fun t175 => (if t175 = 0 then ((body_Body_Data.f t172).bind fun t176 => (if t176.toList = a0.toList then (some (t173 == ((x7_2 ++ (⟨#[13, 10]⟩ : ByteArray)).size : Int))) else (some false))) else (some false))) = some r := by rw [if_pos rfl] at H; exact H
                          clear H
                          have H := H1
                          clear H1
                          replace H := Option.bind_eq_some_iff.mp H
                          obtain ⟨t175, A360, H⟩ := H
                          replace H : (if t175 = 0 then ((body_Body_Data.f t172).bind fun t176 => (if t176.toList = a0.toList then (some (t173 == ((x7_2 ++ (⟨#[13, 10]⟩ : ByteArray)).size : Int))) else (some false))) else (some false)) = some r := H
                          have A36 := Aside0.mk A360
                          clear A360
                          by_cases c37 : t175 = 0
                          · rw [if_pos c37] at H
                            have c37b0 : (t175 == 0) = true := beq_iff_eq.mpr c37
                            have c37b1 : (t175 != 0) = false := bne_eq_false_iff_eq.mpr c37
                            clear c37
                            replace H := Option.bind_eq_some_iff.mp H
                            obtain ⟨t176, A380, H⟩ := H
                            replace H : (if t176.toList = a0.toList then (some (t173 == ((x7_2 ++ (⟨#[13, 10]⟩ : ByteArray)).size : Int))) else (some false)) = some r := H
                            have A38 := Aside0.mk A380
                            clear A380
                            by_cases c39 : t176.toList = a0.toList
                            · rw [if_pos c39] at H
                              have c39b0 : (t176.toList == a0.toList) = true := beq_iff_eq.mpr c39
                              have c39b1 : (t176.toList != a0.toList) = false := bne_eq_false_iff_eq.mpr c39
                              clear c39
                              obtain rfl := Option.some.inj H
                              go_wp2_with (first | ((with_reducible refine gate_callee (f := 10) rfl ?_); refine goesL_ (some 75) rfl rfl Try.func10 (by kernel_rfl) rfl #[.int .i64 (-1), .string ((x7_2 ++ (⟨#[13, 10]⟩ : ByteArray)) ++ a2)] rfl (by (try simp only [List.map_toArray, List.map_cons, List.map_nil]); first | done | rfl | (simp only [List.length_drop, List.length_take]; rfl)) ?_; (with_reducible refine (crossroadlaw03_Feed.calls k2 (-1) ((x7_2 ++ (⟨#[13, 10]⟩ : ByteArray)) ++ a2) t172 t173 _ A33.out).mono ?_); rintro e w40 ⟨VO, rfl, hO_, hb⟩; have HOB := Aside0.mk (BodyOwn.less hO_ (below_size (by repeat (first | (with_reducible first | exact HB.out | apply below_alloc | apply pw_below_drewN | apply below_drew1) | exact HB.out)))); clear hO_; refine ⟨_, rfl, ?_⟩; have n0_ := Aside0.mk (below_step (by repeat (first | (with_reducible first | exact HB.out | apply below_alloc | apply pw_below_drewN | apply below_drew1) | exact HB.out)) hb); clear HB; have HB := n0_; clear n0_; (try clear hb); (try clear hb2); (try clear hk); (try clear hi)) | ((with_reducible refine gate_callee (f := 13) rfl ?_); refine goesL_ (some 79) rfl rfl Try.func13 (by kernel_rfl) rfl #[VO] rfl (by (try simp only [List.map_toArray, List.map_cons, List.map_nil]); first | done | rfl | (simp only [List.length_drop, List.length_take]; rfl)) ?_; (refine (body_Body_Done.calls VO (bas w.heap.size) t172 true _ (by repeat (first | exact HOB.out | refine BodyOwn.drewN ?_ | refine BodyOwn.alloc ?_ | refine BodyOwn.drew ?_)) A34.out).mono ?_); rintro e w' ⟨rfl, ⟨nd, rfl⟩⟩; refine ⟨_, rfl, ?_⟩) | (go_at_call 11; (refine (body_Body_Status.calls VO (bas w.heap.size) t172 t175 _ (by repeat (first | exact HOB.out | refine BodyOwn.drewN ?_ | refine BodyOwn.alloc ?_ | refine BodyOwn.drew ?_)) A36.out).mono ?_); rintro e w' ⟨rfl, ⟨nd, rfl⟩⟩) | (go_at_call 12; (refine (body_Body_Data.calls VO (bas w.heap.size) t172 t176 _ (by repeat (first | exact HOB.out | refine BodyOwn.drewN ?_ | refine BodyOwn.alloc ?_ | refine BodyOwn.drew ?_)) A38.out).mono ?_); rintro e w' ⟨rfl, ⟨nd, rfl⟩⟩))
                              go_ret
                              exact ⟨by first | rfl | (simp [errW_none, errW_some] <;> rfl) | (simp only [← hji12]; first | rfl | (simp [errW_none, errW_some] <;> rfl)) | (simp [*, errW_none, errW_some] <;> rfl), by repeat (first | (with_reducible first | exact HB.out | apply below_alloc | apply pw_below_drewN | apply below_drew1) | exact HB.out)⟩
                            · rw [if_neg c39] at H
                              have c39b0 : (t176.toList == a0.toList) = false := beq_eq_false_iff_ne.mpr c39
                              have c39b1 : (t176.toList != a0.toList) = true := bne_iff_ne.mpr c39
                              obtain rfl := Option.some.inj H
                              go_wp2_with (first | ((with_reducible refine gate_callee (f := 10) rfl ?_); refine goesL_ (some 75) rfl rfl Try.func10 (by kernel_rfl) rfl #[.int .i64 (-1), .string ((x7_2 ++ (⟨#[13, 10]⟩ : ByteArray)) ++ a2)] rfl (by (try simp only [List.map_toArray, List.map_cons, List.map_nil]); first | done | rfl | (simp only [List.length_drop, List.length_take]; rfl)) ?_; (with_reducible refine (crossroadlaw03_Feed.calls k2 (-1) ((x7_2 ++ (⟨#[13, 10]⟩ : ByteArray)) ++ a2) t172 t173 _ A33.out).mono ?_); rintro e w41 ⟨VO, rfl, hO_, hb⟩; have HOB := Aside0.mk (BodyOwn.less hO_ (below_size (by repeat (first | (with_reducible first | exact HB.out | apply below_alloc | apply pw_below_drewN | apply below_drew1) | exact HB.out)))); clear hO_; refine ⟨_, rfl, ?_⟩; have n0_ := Aside0.mk (below_step (by repeat (first | (with_reducible first | exact HB.out | apply below_alloc | apply pw_below_drewN | apply below_drew1) | exact HB.out)) hb); clear HB; have HB := n0_; clear n0_; (try clear hb); (try clear hb2); (try clear hk); (try clear hi)) | ((with_reducible refine gate_callee (f := 13) rfl ?_); refine goesL_ (some 79) rfl rfl Try.func13 (by kernel_rfl) rfl #[VO] rfl (by (try simp only [List.map_toArray, List.map_cons, List.map_nil]); first | done | rfl | (simp only [List.length_drop, List.length_take]; rfl)) ?_; (refine (body_Body_Done.calls VO (bas w.heap.size) t172 true _ (by repeat (first | exact HOB.out | refine BodyOwn.drewN ?_ | refine BodyOwn.alloc ?_ | refine BodyOwn.drew ?_)) A34.out).mono ?_); rintro e w' ⟨rfl, ⟨nd, rfl⟩⟩; refine ⟨_, rfl, ?_⟩) | (go_at_call 11; (refine (body_Body_Status.calls VO (bas w.heap.size) t172 t175 _ (by repeat (first | exact HOB.out | refine BodyOwn.drewN ?_ | refine BodyOwn.alloc ?_ | refine BodyOwn.drew ?_)) A36.out).mono ?_); rintro e w' ⟨rfl, ⟨nd, rfl⟩⟩) | (go_at_call 12; (refine (body_Body_Data.calls VO (bas w.heap.size) t172 t176 _ (by repeat (first | exact HOB.out | refine BodyOwn.drewN ?_ | refine BodyOwn.alloc ?_ | refine BodyOwn.drew ?_)) A38.out).mono ?_); rintro e w' ⟨rfl, ⟨nd, rfl⟩⟩))
                              go_ret
                              exact ⟨by first | rfl | (simp [errW_none, errW_some] <;> rfl) | (simp only [← hji12]; first | rfl | (simp [errW_none, errW_some] <;> rfl)) | (simp [*, errW_none, errW_some] <;> rfl), by repeat (first | (with_reducible first | exact HB.out | apply below_alloc | apply pw_below_drewN | apply below_drew1) | exact HB.out)⟩
                          · rw [if_neg c37] at H
                            have c37b0 : (t175 == 0) = false := beq_eq_false_iff_ne.mpr c37
                            have c37b1 : (t175 != 0) = true := bne_iff_ne.mpr c37
                            obtain rfl := Option.some.inj H
                            go_wp2_with (first | ((with_reducible refine gate_callee (f := 10) rfl ?_); refine goesL_ (some 75) rfl rfl Try.func10 (by kernel_rfl) rfl #[.int .i64 (-1), .string ((x7_2 ++ (⟨#[13, 10]⟩ : ByteArray)) ++ a2)] rfl (by (try simp only [List.map_toArray, List.map_cons, List.map_nil]); first | done | rfl | (simp only [List.length_drop, List.length_take]; rfl)) ?_; (with_reducible refine (crossroadlaw03_Feed.calls k2 (-1) ((x7_2 ++ (⟨#[13, 10]⟩ : ByteArray)) ++ a2) t172 t173 _ A33.out).mono ?_); rintro e w42 ⟨VO, rfl, hO_, hb⟩; have HOB := Aside0.mk (BodyOwn.less hO_ (below_size (by repeat (first | (with_reducible first | exact HB.out | apply below_alloc | apply pw_below_drewN | apply below_drew1) | exact HB.out)))); clear hO_; refine ⟨_, rfl, ?_⟩; have n0_ := Aside0.mk (below_step (by repeat (first | (with_reducible first | exact HB.out | apply below_alloc | apply pw_below_drewN | apply below_drew1) | exact HB.out)) hb); clear HB; have HB := n0_; clear n0_; (try clear hb); (try clear hb2); (try clear hk); (try clear hi)) | ((with_reducible refine gate_callee (f := 13) rfl ?_); refine goesL_ (some 79) rfl rfl Try.func13 (by kernel_rfl) rfl #[VO] rfl (by (try simp only [List.map_toArray, List.map_cons, List.map_nil]); first | done | rfl | (simp only [List.length_drop, List.length_take]; rfl)) ?_; (refine (body_Body_Done.calls VO (bas w.heap.size) t172 true _ (by repeat (first | exact HOB.out | refine BodyOwn.drewN ?_ | refine BodyOwn.alloc ?_ | refine BodyOwn.drew ?_)) A34.out).mono ?_); rintro e w' ⟨rfl, ⟨nd, rfl⟩⟩; refine ⟨_, rfl, ?_⟩) | (go_at_call 11; (refine (body_Body_Status.calls VO (bas w.heap.size) t172 t175 _ (by repeat (first | exact HOB.out | refine BodyOwn.drewN ?_ | refine BodyOwn.alloc ?_ | refine BodyOwn.drew ?_)) A36.out).mono ?_); rintro e w' ⟨rfl, ⟨nd, rfl⟩⟩))
                            go_ret
                            exact ⟨by first | rfl | (simp [errW_none, errW_some] <;> rfl) | (simp only [← hji12]; first | rfl | (simp [errW_none, errW_some] <;> rfl)) | (simp [*, errW_none, errW_some] <;> rfl), by repeat (first | (with_reducible first | exact HB.out | apply below_alloc | apply pw_below_drewN | apply below_drew1) | exact HB.out)⟩
                        · replace c35 := Bool.eq_false_iff.mpr c35
                          subst c35
                          have H1 : (some false) = some r := by rw [if_neg (show ¬ (false = true) by decide)] at H; exact H
                          clear H
                          have H := H1
                          clear H1
                          obtain rfl := Option.some.inj H
                          go_wp2_with (first | ((with_reducible refine gate_callee (f := 10) rfl ?_); refine goesL_ (some 75) rfl rfl Try.func10 (by kernel_rfl) rfl #[.int .i64 (-1), .string ((x7_2 ++ (⟨#[13, 10]⟩ : ByteArray)) ++ a2)] rfl (by (try simp only [List.map_toArray, List.map_cons, List.map_nil]); first | done | rfl | (simp only [List.length_drop, List.length_take]; rfl)) ?_; (with_reducible refine (crossroadlaw03_Feed.calls k2 (-1) ((x7_2 ++ (⟨#[13, 10]⟩ : ByteArray)) ++ a2) t172 t173 _ A33.out).mono ?_); rintro e w43 ⟨VO, rfl, hO_, hb⟩; have HOB := Aside0.mk (BodyOwn.less hO_ (below_size (by repeat (first | (with_reducible first | exact HB.out | apply below_alloc | apply pw_below_drewN | apply below_drew1) | exact HB.out)))); clear hO_; refine ⟨_, rfl, ?_⟩; have n0_ := Aside0.mk (below_step (by repeat (first | (with_reducible first | exact HB.out | apply below_alloc | apply pw_below_drewN | apply below_drew1) | exact HB.out)) hb); clear HB; have HB := n0_; clear n0_; (try clear hb); (try clear hb2); (try clear hk); (try clear hi)) | ((with_reducible refine gate_callee (f := 13) rfl ?_); refine goesL_ (some 79) rfl rfl Try.func13 (by kernel_rfl) rfl #[VO] rfl (by (try simp only [List.map_toArray, List.map_cons, List.map_nil]); first | done | rfl | (simp only [List.length_drop, List.length_take]; rfl)) ?_; (refine (body_Body_Done.calls VO (bas w.heap.size) t172 false _ (by repeat (first | exact HOB.out | refine BodyOwn.drewN ?_ | refine BodyOwn.alloc ?_ | refine BodyOwn.drew ?_)) A34.out).mono ?_); rintro e w' ⟨rfl, ⟨nd, rfl⟩⟩; refine ⟨_, rfl, ?_⟩))
                          go_ret
                          exact ⟨by first | rfl | (simp [errW_none, errW_some] <;> rfl) | (simp only [← hji12]; first | rfl | (simp [errW_none, errW_some] <;> rfl)) | (simp [*, errW_none, errW_some] <;> rfl), by repeat (first | (with_reducible first | exact HB.out | apply below_alloc | apply pw_below_drewN | apply below_drew1) | exact HB.out)⟩
                      · rw [if_neg c32] at H
                        exact absurd H (by simp)
                    · rw [if_neg c31] at H
                      exact absurd H (by simp)
            · rw [if_neg c14] at H
              exact absurd H (by simp)
          · rw [if_neg c13] at H
            exact absurd H (by simp)
  · replace c5 := Bool.eq_false_iff.mpr c5
    subst c5
    have H1 : (some false) = some r := by rw [if_neg (show ¬ (false = true) by decide)] at H; exact H
    clear H
    have H := H1
    clear H1
    obtain rfl := Option.some.inj H
    go_enter Try.func8, Try.ntmps8
    go_wp2_with (first | ((with_reducible refine gate_callee (f := 9) rfl ?_); refine goesL_ (some 13) rfl rfl Try.func9 (by kernel_rfl) rfl #[] rfl (by (try simp only [List.map_toArray, List.map_cons, List.map_nil]); first | done | rfl | (simp only [List.length_drop, List.length_take]; rfl)) ?_; (with_reducible refine (crossroadlaw03_fit.calls k  false _ A4.out).mono ?_); rintro e w44 ⟨rfl, hb⟩; (try (have nM_ := Aside0.mk (BodyOwn.below (by repeat (first | exact HOB.out | refine BodyOwn.drewN ?_ | refine BodyOwn.alloc ?_ | refine BodyOwn.drew ?_)) hb); clear HOB; have HOB := nM_; clear nM_)); refine ⟨_, rfl, ?_⟩; have n0_ := Aside0.mk (below_step (by repeat (first | (with_reducible first | exact HB.out | apply below_alloc | apply pw_below_drewN | apply below_drew1) | exact HB.out)) hb); clear HB; have HB := n0_; clear n0_; (try clear hb); (try clear hb2); (try clear hk); (try clear hi)))
    go_ret
    exact ⟨by first | rfl | (simp [errW_none, errW_some] <;> rfl) | (simp [*, errW_none, errW_some] <;> rfl), by repeat (first | (with_reducible first | exact HB.out | apply below_alloc | apply pw_below_drewN | apply below_drew1) | exact HB.out)⟩

end Go.Proofs.Ytkdmjkoojipofaa.X

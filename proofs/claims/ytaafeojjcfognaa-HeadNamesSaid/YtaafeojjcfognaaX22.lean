-- Written for this claim by a program of this session (wip/xprint.py). Not trusted: Lean checks it.
import Derived.Test.YtaafeojjcfognaaX0
import Derived.Test.YtaafeojjcfognaaX1
import Derived.Test.YtaafeojjcfognaaX4
import Derived.Test.YtaafeojjcfognaaX5
import Derived.Test.YtaafeojjcfognaaX8
import Derived.Test.YtaafeojjcfognaaX9
import Derived.Test.YtaafeojjcfognaaX15
import Derived.Test.YtaafeojjcfognaaX16
namespace Go.Proofs.Ytaafeojjcfognaa.X
open Go.RowKit Go.Proofs.YtaafeojjcfognaaW.PrintWords Go.Proofs.YtaafeojjcfognaaW.PrintLast Go.Proofs.YtaafeojjcfognaaW.PrintMore
attribute [local go_sem] max2_int min2_int max_two min_two max_three min_three max_four min_four   -- for this text's walks alone
set_option linter.unusedVariables false
set_option linter.unusedSimpArgs false

attribute [local go_sem high] eqA27
/-! ### crossroadlaw02_HeadNames: function 8 -/
mutual
def crossroadlaw02_HeadNames.j0 : Nat → List ByteArray → ByteArray → Bool → Option (Bool)
  | 0, _, _, _ => none
  | k + 1, x0, x1, x27 => if x27 = true then (some true) else (crossroadlaw02_HeadNames.l0 k x0 x1 (([(⟨#[71, 69, 84, 32, 47, 32, 72, 84, 84, 80, 47, 49, 46, 49]⟩ : ByteArray), (⟨#[72, 79, 83, 84, 58, 32, 97]⟩ : ByteArray)] : List ByteArray)) x0 (x0.length : Int) 0)
def crossroadlaw02_HeadNames.l0 : Nat → List ByteArray → ByteArray → List ByteArray → List ByteArray → Int → Int → Option (Bool)
  | 0, _, _, _, _, _, _ => none
  | k + 1, x0, x1, x5, x29, x30, x31 => if x31 < x30 then (if 0 ≤ x31 then (if x31 < (x29.length : Int) then ((ascii_Lower.f (rdOf ByteArray.empty x29 x31)).bind fun t415 => (if ((rdOf ByteArray.empty x29 x31).size : Int) > 40 then (some true) else ((ascii_Token.f k (rdOf ByteArray.empty x29 x31)).bind fun t416 => (if t416 = true then (if t415.toList = ([104, 111, 115, 116] : List UInt8) then (some true) else (if t415.toList = ([99, 111, 110, 116, 101, 110, 116, 45, 108, 101, 110, 103, 116, 104] : List UInt8) then (some true) else (if t415.toList = ([116, 114, 97, 110, 115, 102, 101, 114, 45, 101, 110, 99, 111, 100, 105, 110, 103] : List UInt8) then (some true) else (if (rdOf ByteArray.empty x29 x31).size + 1 ≤ 9223372036854775807 then (if ((rdOf ByteArray.empty x29 x31) ++ (⟨#[58]⟩ : ByteArray)).size + x1.size ≤ 9223372036854775807 then (if x5.length < 8796093022208 then (crossroadlaw02_HeadNames.l0 k x0 x1 (x5 ++ [((rdOf ByteArray.empty x29 x31) ++ (⟨#[58]⟩ : ByteArray)) ++ x1]) x29 x30 (wrap64 (x31 + 1))) else (none)) else (none)) else (none))))) else (some true))))) else (none)) else (none)) else ((head_Parse.f k x5).bind fun bt420 => (if bt420.2.2.2.2.2.2 = 0 then (if (bt420.2.2.1.length : Int) = (wrap64 ((x0.length : Int) + 1)) then (if 0 < (bt420.2.2.1.length : Int) then (crossroadlaw02_HeadNames.j2 k x0 x1 (!((((rd_T27 bt420.2.2.1 0).f0).toList) == ([104, 111, 115, 116] : List UInt8)) || (!((((rd_T27 bt420.2.2.1 0).f1).toList) == ([97] : List UInt8)))) bt420.1 bt420.2.1 bt420.2.2.1 bt420.2.2.2.1 bt420.2.2.2.2.1 bt420.2.2.2.2.2.1 bt420.2.2.2.2.2.2) else (none)) else (crossroadlaw02_HeadNames.j2 k x0 x1 true bt420.1 bt420.2.1 bt420.2.2.1 bt420.2.2.2.1 bt420.2.2.2.2.1 bt420.2.2.2.2.2.1 bt420.2.2.2.2.2.2)) else (crossroadlaw02_HeadNames.j2 k x0 x1 true bt420.1 bt420.2.1 bt420.2.2.1 bt420.2.2.2.1 bt420.2.2.2.2.1 bt420.2.2.2.2.2.1 bt420.2.2.2.2.2.2)))
def crossroadlaw02_HeadNames.j2 : Nat → List ByteArray → ByteArray → Bool → ByteArray → ByteArray → List (S27) → ByteArray → Bool → Int → Int → Option (Bool)
  | 0, _, _, _, _, _, _, _, _, _, _ => none
  | k + 1, x0, x1, x88, x430000, x430001, x430002, x430003, x430004, x430005, x430006 => if x88 = true then (some false) else (crossroadlaw02_HeadNames.l1 k x1 x0 (x0.length : Int) 0 x430000 x430001 x430002 x430003 x430004 x430005 x430006)
def crossroadlaw02_HeadNames.l1 : Nat → ByteArray → List ByteArray → Int → Int → ByteArray → ByteArray → List (S27) → ByteArray → Bool → Int → Int → Option (Bool)
  | 0, _, _, _, _, _, _, _, _, _, _, _ => none
  | k + 1, x1, x89, x90, x91, x430000, x430001, x430002, x430003, x430004, x430005, x430006 => if x91 < x90 then (if 0 ≤ x91 then (if x91 < (x89.length : Int) then (if 0 ≤ (wrap64 (x91 + 1)) then (if (wrap64 (x91 + 1)) < (x430002.length : Int) then ((ascii_Lower.f (rdOf ByteArray.empty x89 x91)).bind fun t433 => ((ascii_Trim.f k x1).bind fun t434 => (if (!((((rd_T27 x430002 (wrap64 (x91 + 1))).f0).toList) == t433.toList) || (!((((rd_T27 x430002 (wrap64 (x91 + 1))).f1).toList) == t434.toList))) = true then (some false) else (crossroadlaw02_HeadNames.l1 k x1 x89 x90 (wrap64 (x91 + 1)) x430000 x430001 x430002 x430003 x430004 x430005 x430006)))) else (none)) else (none)) else (none)) else (none)) else (some true)
end
def crossroadlaw02_HeadNames.f (k : Nat) (l0 : List ByteArray) (a1 : ByteArray) : Option (Bool) := (crossroadlaw02_fit.f k).bind fun t408 => (if t408 = true then (if (l0.length : Int) > 12 then (crossroadlaw02_HeadNames.j0 k l0 a1 true) else (if (a1.size : Int) > 60 then (crossroadlaw02_HeadNames.j0 k l0 a1 true) else ((ascii_Trim.f k a1).bind fun t409 => ((ascii_Value.f t409).bind fun t410 => (crossroadlaw02_HeadNames.j0 k l0 a1 (!t410)))))) else (some false))
theorem crossroadlaw02_HeadNames.mono_l : ∀ k, (∀ y0 y1 y2, LeO (crossroadlaw02_HeadNames.j0 k y0 y1 y2) (crossroadlaw02_HeadNames.j0 (k + 1) y0 y1 y2)) ∧ (∀ y0 y1 y2 y3 y4 y5, LeO (crossroadlaw02_HeadNames.l0 k y0 y1 y2 y3 y4 y5) (crossroadlaw02_HeadNames.l0 (k + 1) y0 y1 y2 y3 y4 y5)) ∧ (∀ y0 y1 y2 y3 y4 y5 y6 y7 y8 y9, LeO (crossroadlaw02_HeadNames.j2 k y0 y1 y2 y3 y4 y5 y6 y7 y8 y9) (crossroadlaw02_HeadNames.j2 (k + 1) y0 y1 y2 y3 y4 y5 y6 y7 y8 y9)) ∧ (∀ y0 y1 y2 y3 y4 y5 y6 y7 y8 y9 y10, LeO (crossroadlaw02_HeadNames.l1 k y0 y1 y2 y3 y4 y5 y6 y7 y8 y9 y10) (crossroadlaw02_HeadNames.l1 (k + 1) y0 y1 y2 y3 y4 y5 y6 y7 y8 y9 y10))
  | 0 => ⟨fun _ _ _ r h => by simp [crossroadlaw02_HeadNames.j0] at h, fun _ _ _ _ _ _ r h => by simp [crossroadlaw02_HeadNames.l0] at h, fun _ _ _ _ _ _ _ _ _ _ r h => by simp [crossroadlaw02_HeadNames.j2] at h, fun _ _ _ _ _ _ _ _ _ _ _ r h => by simp [crossroadlaw02_HeadNames.l1] at h⟩
  | k + 1 => by
    obtain ⟨ih0, ih1, ih2, ih3⟩ := crossroadlaw02_HeadNames.mono_l k
    refine ⟨?_, ?_, ?_, ?_⟩
    · intro y0 y1 y2
      unfold crossroadlaw02_HeadNames.j0
      repeat' first
      | (with_reducible exact ih0 _ _ _)
      | (with_reducible exact ih1 _ _ _ _ _ _)
      | (with_reducible exact ih2 _ _ _ _ _ _ _ _ _ _)
      | (with_reducible exact ih3 _ _ _ _ _ _ _ _ _ _ _)
      | (with_reducible exact ascii_Token.mono _ _)
      | (with_reducible exact ascii_Trim.mono _ _)
      | (with_reducible exact crossroadlaw02_fit.mono _)
      | (with_reducible exact head_Parse.mono _ _)
      | (with_reducible exact LeO.refl _)
      | (with_reducible exact LeO.none _)
      | (with_reducible refine LeO.ite ?_ ?_)
      | (with_reducible refine LeO.bind ?_ (fun _ => ?_))
      | exact ih0 _ _ _
      | exact ih1 _ _ _ _ _ _
      | exact ih2 _ _ _ _ _ _ _ _ _ _
      | exact ih3 _ _ _ _ _ _ _ _ _ _ _
      | exact ascii_Token.mono _ _
      | exact ascii_Trim.mono _ _
      | exact crossroadlaw02_fit.mono _
      | exact head_Parse.mono _ _
      | exact LeO.none _
      | refine LeO.ite ?_ ?_
      | refine LeO.bind ?_ (fun _ => ?_)
    · intro y0 y1 y2 y3 y4 y5
      unfold crossroadlaw02_HeadNames.l0
      repeat' first
      | (with_reducible exact ih0 _ _ _)
      | (with_reducible exact ih1 _ _ _ _ _ _)
      | (with_reducible exact ih2 _ _ _ _ _ _ _ _ _ _)
      | (with_reducible exact ih3 _ _ _ _ _ _ _ _ _ _ _)
      | (with_reducible exact ascii_Token.mono _ _)
      | (with_reducible exact ascii_Trim.mono _ _)
      | (with_reducible exact crossroadlaw02_fit.mono _)
      | (with_reducible exact head_Parse.mono _ _)
      | (with_reducible exact LeO.refl _)
      | (with_reducible exact LeO.none _)
      | (with_reducible refine LeO.ite ?_ ?_)
      | (with_reducible refine LeO.bind ?_ (fun _ => ?_))
      | exact ih0 _ _ _
      | exact ih1 _ _ _ _ _ _
      | exact ih2 _ _ _ _ _ _ _ _ _ _
      | exact ih3 _ _ _ _ _ _ _ _ _ _ _
      | exact ascii_Token.mono _ _
      | exact ascii_Trim.mono _ _
      | exact crossroadlaw02_fit.mono _
      | exact head_Parse.mono _ _
      | exact LeO.none _
      | refine LeO.ite ?_ ?_
      | refine LeO.bind ?_ (fun _ => ?_)
    · intro y0 y1 y2 y3 y4 y5 y6 y7 y8 y9
      unfold crossroadlaw02_HeadNames.j2
      repeat' first
      | (with_reducible exact ih0 _ _ _)
      | (with_reducible exact ih1 _ _ _ _ _ _)
      | (with_reducible exact ih2 _ _ _ _ _ _ _ _ _ _)
      | (with_reducible exact ih3 _ _ _ _ _ _ _ _ _ _ _)
      | (with_reducible exact ascii_Token.mono _ _)
      | (with_reducible exact ascii_Trim.mono _ _)
      | (with_reducible exact crossroadlaw02_fit.mono _)
      | (with_reducible exact head_Parse.mono _ _)
      | (with_reducible exact LeO.refl _)
      | (with_reducible exact LeO.none _)
      | (with_reducible refine LeO.ite ?_ ?_)
      | (with_reducible refine LeO.bind ?_ (fun _ => ?_))
      | exact ih0 _ _ _
      | exact ih1 _ _ _ _ _ _
      | exact ih2 _ _ _ _ _ _ _ _ _ _
      | exact ih3 _ _ _ _ _ _ _ _ _ _ _
      | exact ascii_Token.mono _ _
      | exact ascii_Trim.mono _ _
      | exact crossroadlaw02_fit.mono _
      | exact head_Parse.mono _ _
      | exact LeO.none _
      | refine LeO.ite ?_ ?_
      | refine LeO.bind ?_ (fun _ => ?_)
    · intro y0 y1 y2 y3 y4 y5 y6 y7 y8 y9 y10
      unfold crossroadlaw02_HeadNames.l1
      repeat' first
      | (with_reducible exact ih0 _ _ _)
      | (with_reducible exact ih1 _ _ _ _ _ _)
      | (with_reducible exact ih2 _ _ _ _ _ _ _ _ _ _)
      | (with_reducible exact ih3 _ _ _ _ _ _ _ _ _ _ _)
      | (with_reducible exact ascii_Token.mono _ _)
      | (with_reducible exact ascii_Trim.mono _ _)
      | (with_reducible exact crossroadlaw02_fit.mono _)
      | (with_reducible exact head_Parse.mono _ _)
      | (with_reducible exact LeO.refl _)
      | (with_reducible exact LeO.none _)
      | (with_reducible refine LeO.ite ?_ ?_)
      | (with_reducible refine LeO.bind ?_ (fun _ => ?_))
      | exact ih0 _ _ _
      | exact ih1 _ _ _ _ _ _
      | exact ih2 _ _ _ _ _ _ _ _ _ _
      | exact ih3 _ _ _ _ _ _ _ _ _ _ _
      | exact ascii_Token.mono _ _
      | exact ascii_Trim.mono _ _
      | exact crossroadlaw02_fit.mono _
      | exact head_Parse.mono _ _
      | exact LeO.none _
      | refine LeO.ite ?_ ?_
      | refine LeO.bind ?_ (fun _ => ?_)
theorem crossroadlaw02_HeadNames.mono : ∀ a0 a1 k, LeO (crossroadlaw02_HeadNames.f k a0 a1) (crossroadlaw02_HeadNames.f (k + 1) a0 a1) := by
  intro a0 a1 k
  obtain ⟨ih0, ih1, ih2, ih3⟩ := crossroadlaw02_HeadNames.mono_l k
  unfold crossroadlaw02_HeadNames.f
  repeat' first
      | (with_reducible exact ih0 _ _ _)
      | (with_reducible exact ih1 _ _ _ _ _ _)
      | (with_reducible exact ih2 _ _ _ _ _ _ _ _ _ _)
      | (with_reducible exact ih3 _ _ _ _ _ _ _ _ _ _ _)
      | (with_reducible exact ascii_Token.mono _ _)
      | (with_reducible exact ascii_Trim.mono _ _)
      | (with_reducible exact crossroadlaw02_fit.mono _)
      | (with_reducible exact head_Parse.mono _ _)
      | (with_reducible exact LeO.refl _)
      | (with_reducible exact LeO.none _)
      | (with_reducible refine LeO.ite ?_ ?_)
      | (with_reducible refine LeO.bind ?_ (fun _ => ?_))
      | exact ih0 _ _ _
      | exact ih1 _ _ _ _ _ _
      | exact ih2 _ _ _ _ _ _ _ _ _ _
      | exact ih3 _ _ _ _ _ _ _ _ _ _ _
      | exact ascii_Token.mono _ _
      | exact ascii_Trim.mono _ _
      | exact crossroadlaw02_fit.mono _
      | exact head_Parse.mono _ _
      | exact LeO.none _
      | refine LeO.ite ?_ ?_
      | refine LeO.bind ?_ (fun _ => ?_)
def crossroadlaw02_HeadNames.T20 : Bool × List (List Nat × List Nat) := (true, [([], []), ([0], [0]), ([1], [1]), ([], []), ([3], [3]), ([2, 4], [2, 4]), ([5], [5]), ([], []), ([7], [7]), ([], []), ([9, 8], [9]), ([8, 10], [8, 10]), ([6, 11], [6, 11])])
def crossroadlaw02_HeadNames.B20 : List Nat := [0, 1, 3, 0, 8, 31, 63, 0, 128, 0, 896, 1920, 4095]
theorem crossroadlaw02_HeadNames.tab20 : rtab .any (opsOf Try.f8 20) = crossroadlaw02_HeadNames.T20 := by kernel_rfl
theorem crossroadlaw02_HeadNames.bits20 : waitsOk crossroadlaw02_HeadNames.T20.2 crossroadlaw02_HeadNames.B20 = true := by kernel_rfl
set_option maxHeartbeats 8000000 in
set_option maxRecDepth 100000 in
theorem crossroadlaw02_HeadNames.calls (k : Nat) (A0 : Option Addr) (c0 : Nat) (l0 : List ByteArray) (a1 : ByteArray) (r : Bool) (w : World) (hr0 : Kd.C Kd.string w A0 l0.length l0) (hc0 : l0.length ≤ c0) (h : crossroadlaw02_HeadNames.f k l0 a1 = some r) :
    Calls Try.prog 8 #[.slice A0 l0.length c0, .string a1] w fun e w' => e = .returned (.bool r) ∧ Below w.heap.size w w' := by
  have hu32 := Try.underlying32
  have hu27 := Try.underlying27
  have HR0 := Aside0.mk hr0
  have HC0 := Aside0.mk hc0
  clear hr0 hc0
  have HB := Aside0.mk (Below.refl w.heap.size w)
  have H : ((crossroadlaw02_fit.f k).bind fun t408 => (if t408 = true then (if (l0.length : Int) > 12 then (crossroadlaw02_HeadNames.j0 k l0 a1 true) else (if (a1.size : Int) > 60 then (crossroadlaw02_HeadNames.j0 k l0 a1 true) else ((ascii_Trim.f k a1).bind fun t409 => ((ascii_Value.f t409).bind fun t410 => (crossroadlaw02_HeadNames.j0 k l0 a1 (!t410)))))) else (some false))) = some r := h
  clear h
  replace H := Option.bind_eq_some_iff.mp H
  obtain ⟨t408, A30, H⟩ := H
  replace H : (if t408 = true then (if (l0.length : Int) > 12 then (crossroadlaw02_HeadNames.j0 k l0 a1 true) else (if (a1.size : Int) > 60 then (crossroadlaw02_HeadNames.j0 k l0 a1 true) else ((ascii_Trim.f k a1).bind fun t409 => ((ascii_Value.f t409).bind fun t410 => (crossroadlaw02_HeadNames.j0 k l0 a1 (!t410)))))) else (some false)) = some r := H
  have A3 := Aside0.mk A30
  clear A30
  by_cases c4 : t408 = true
  · subst c4
    have H1 : (if (l0.length : Int) > 12 then (crossroadlaw02_HeadNames.j0 k l0 a1 true) else (if (a1.size : Int) > 60 then (crossroadlaw02_HeadNames.j0 k l0 a1 true) else ((ascii_Trim.f k a1).bind fun t409 => ((ascii_Value.f t409).bind fun t410 => (crossroadlaw02_HeadNames.j0 k l0 a1 (!t410)))))) = some r := by rw [if_pos rfl] at H; exact H
    clear H
    have H := H1
    clear H1
    have HC5 := Aside0.mk H
    clear H
    go_enter Try.func8, Try.ntmps8
    go_upto_region 3 with (first | ((with_reducible refine gate_callee (f := 9) rfl ?_); refine goesL_ (some 12) rfl rfl Try.func9 (by kernel_rfl) rfl #[] rfl (by (try simp only [List.map_toArray, List.map_cons, List.map_nil]); first | done | rfl | (simp only [List.length_drop, List.length_take]; rfl)) ?_; (with_reducible refine (crossroadlaw02_fit.calls k  true _ A3.out).mono ?_); rintro e w6 ⟨rfl, hb⟩; refine ⟨_, rfl, ?_⟩; have n0_ := Aside0.mk (below_step (by repeat (first | (with_reducible first | exact HB.out | apply below_alloc | apply pw_below_drewN | apply below_drew1) | exact HB.out)) hb); clear HB; have HB := n0_; clear n0_; (try clear hb); (try clear hb2); (try clear hk); (try clear hi)))
    (try simp only [Act.put, List.setIfInBounds_toArray, List.set_cons_zero, List.set_cons_succ])
    go_cut [27] (fun v27 wc => ∃ (kq : Nat) (x27_4 : Bool), v27 = .bool x27_4 ∧ Aside0 (crossroadlaw02_HeadNames.j0 kq l0 a1 x27_4 = some r) ∧ Aside0 (kq ≤ k) ∧ Aside0 (Below w.heap.size w wc))
    case first =>
      have H := HC5.out
      clear HC5
      by_cases c7 : (l0.length : Int) > 12
      · rw [if_pos c7] at H
        have c7b0 : decide (12 < (l0.length : Int)) = true := decide_eq_true c7
        have c7b1 : decide (12 < l0.length) = true := decide_eq_true (by omega)
        clear c7
        (first | rw [c7b0] | (simp only [i64_w, i32_w]; rw [c7b0]) | skip)
        have H' := Aside0.mk H
        clear H
        go_wp2
        go_meet
        case rel => exact ⟨_, (true), (by first | rfl | (simp; done) | (simp [*]; done)), H', ⟨by first | omega | exact Nat.le_refl _⟩, ⟨by repeat (first | (with_reducible first | exact HB.out | apply below_alloc | apply pw_below_drewN | apply below_drew1) | exact HB.out)⟩⟩
      · rw [if_neg c7] at H
        have c7b0 : decide (12 < (l0.length : Int)) = false := decide_eq_false c7
        have c7b1 : decide (12 < l0.length) = false := decide_eq_false (by omega)
        clear c7
        (first | rw [c7b0] | (simp only [i64_w, i32_w]; rw [c7b0]) | skip)
        by_cases c8 : (a1.size : Int) > 60
        · rw [if_pos c8] at H
          have c8b0 : decide (60 < (a1.size : Int)) = true := decide_eq_true c8
          have c8b1 : decide (60 < a1.size) = true := decide_eq_true (by omega)
          clear c8
          have H' := Aside0.mk H
          clear H
          go_wp2
          go_meet
          case rel => exact ⟨_, (true), (by first | rfl | (simp; done) | (simp [*]; done)), H', ⟨by first | omega | exact Nat.le_refl _⟩, ⟨by repeat (first | (with_reducible first | exact HB.out | apply below_alloc | apply pw_below_drewN | apply below_drew1) | exact HB.out)⟩⟩
        · rw [if_neg c8] at H
          have c8b0 : decide (60 < (a1.size : Int)) = false := decide_eq_false c8
          have c8b1 : decide (60 < a1.size) = false := decide_eq_false (by omega)
          clear c8
          replace H := Option.bind_eq_some_iff.mp H
          obtain ⟨t409, A90, H⟩ := H
          replace H : ((ascii_Value.f t409).bind fun t410 => (crossroadlaw02_HeadNames.j0 k l0 a1 (!t410))) = some r := H
          have A9 := Aside0.mk A90
          clear A90
          replace H := Option.bind_eq_some_iff.mp H
          obtain ⟨t410, A100, H⟩ := H
          replace H : (crossroadlaw02_HeadNames.j0 k l0 a1 (!t410)) = some r := H
          have A10 := Aside0.mk A100
          clear A100
          have H' := Aside0.mk H
          clear H
          go_wp2_with (first | (go_at_call 14; (with_reducible refine (ascii_Trim.calls k a1 t409 _ A9.out).mono ?_); rintro e w' ⟨rfl, ⟨nd, rfl⟩⟩) | (go_at_call 13; (with_reducible refine (ascii_Value.calls t409 t410 _ A10.out).mono ?_); rintro e w11 ⟨rfl, hb⟩; have n0_ := Aside0.mk (below_step (by repeat (first | (with_reducible first | exact HB.out | apply below_alloc | apply pw_below_drewN | apply below_drew1) | exact HB.out)) hb); clear HB; have HB := n0_; clear n0_; (try clear hb); (try clear hb2); (try clear hk); (try clear hi)))
          go_meet
          case rel => exact ⟨_, (!t410), (by first | rfl | (simp; done) | (simp [*]; done)), H', ⟨by first | omega | exact Nat.le_refl _⟩, ⟨by repeat (first | (with_reducible first | exact HB.out | apply below_alloc | apply pw_below_drewN | apply below_drew1) | exact HB.out)⟩⟩
    case rest =>
      clear HC5
      try clear p2
      try clear c4
      try clear c7
      try clear c7b0
      try clear c7b1
      try clear c8
      try clear c8b0
      try clear c8b1
      try clear c9
      obtain ⟨kq, x27_4, rfl, HA, HJ4, HB⟩ := hcut
      cases kq with
      | zero => exact absurd HA.out (by simp [crossroadlaw02_HeadNames.j0])
      | succ kj4 =>
        have H := HA.out
        clear HA
        simp only [crossroadlaw02_HeadNames.j0] at H
        by_cases c12 : x27_4 = true
        · subst c12
          have H1 : (some true) = some r := by rw [if_pos rfl] at H; exact H
          clear H
          have H := H1
          clear H1
          obtain rfl := Option.some.inj H
          go_wp2
          go_ret
          exact ⟨by first | rfl | (simp [errW_none, errW_some] <;> rfl) | (simp [*, errW_none, errW_some] <;> rfl), by repeat (first | (with_reducible first | exact HB.out | apply below_alloc | apply pw_below_drewN | apply below_drew1) | exact HB.out)⟩
        · replace c12 := Bool.eq_false_iff.mpr c12
          subst c12
          have H1 : (crossroadlaw02_HeadNames.l0 kj4 l0 a1 (([(⟨#[71, 69, 84, 32, 47, 32, 72, 84, 84, 80, 47, 49, 46, 49]⟩ : ByteArray), (⟨#[72, 79, 83, 84, 58, 32, 97]⟩ : ByteArray)] : List ByteArray)) l0 (l0.length : Int) 0) = some r := by rw [if_neg (show ¬ (false = true) by decide)] at H; exact H
          clear H
          have H := H1
          clear H1
          obtain ⟨y411, hy411⟩ : ∃ y_ : List ByteArray, y_ = (([(⟨#[71, 69, 84, 32, 47, 32, 72, 84, 84, 80, 47, 49, 46, 49]⟩ : ByteArray), (⟨#[72, 79, 83, 84, 58, 32, 97]⟩ : ByteArray)] : List ByteArray)) := ⟨_, rfl⟩
          replace H : (crossroadlaw02_HeadNames.l0 kj4 l0 a1 y411 l0 (l0.length : Int) 0) = some r := by first | (rw [hy411]; with_reducible exact H) | (have H2_ := (Option.bind_some _ _).symm.trans H; rw [hy411]; with_reducible exact H2_) | (have H2_ := (Option.bind_some _ _).symm.trans H; with_reducible exact H2_) | with_reducible exact H | (rw [hy411]; exact H) | exact H
          have Ny411 := Aside0.mk hy411
          clear hy411
          have H' := Aside0.mk H
          clear H
          go_wp2_with (first | ((with_reducible refine gate_dst (N := 28) rfl ?_); (try (refine gate_guard (by rfl) ?_; dsimp only)); refine Kd.R_lit Kd.string _ 9 ?hg (N := 28) ?hd (xs := ([(⟨#[71, 69, 84, 32, 47, 32, 72, 84, 84, 80, 47, 49, 46, 49]⟩ : ByteArray), (⟨#[72, 79, 83, 84, 58, 32, 97]⟩ : ByteArray)] : List ByteArray)) (inner := [.string (⟨#[71, 69, 84, 32, 47, 32, 72, 84, 84, 80, 47, 49, 46, 49]⟩ : ByteArray), .string (⟨#[72, 79, 83, 84, 58, 32, 97]⟩ : ByteArray)]) (ok := fun _ => True) (okp := fun _ => True) ?hr ?hp (fun _ hk => hk) trivial (Below.refl _ _) (Nat.le_refl _) (by simp) ?_; (case hd => rfl); (case hg => rfl); (case hr => first | (go_simp; done) | (go_simp; rfl)); (case hp => exact (Reps.one (show Kd.M Kd.string _ _ _ (⟨#[71, 69, 84, 32, 47, 32, 72, 84, 84, 80, 47, 49, 46, 49]⟩ : ByteArray) [.string (⟨#[71, 69, 84, 32, 47, 32, 72, 84, 84, 80, 47, 49, 46, 49]⟩ : ByteArray)] from rfl) (Reps.one (show Kd.M Kd.string _ _ _ (⟨#[72, 79, 83, 84, 58, 32, 97]⟩ : ByteArray) [.string (⟨#[72, 79, 83, 84, 58, 32, 97]⟩ : ByteArray)] from rfl) (Reps.none _ _)))); intro v412 w13 ho14 hb hg_ hnew_; clear hg_ hnew_; (first | rw [← Ny411.out] at ho14 | (simp only [Int.reduceToNat] at ho14; rw [← Ny411.out] at ho14)); have n0_ := Aside0.mk (Kd.R_lower ho14 (below_size (by repeat (first | (with_reducible first | exact HB.out | apply below_alloc | apply pw_below_drewN | apply below_drew1) | exact HB.out)))); have n1_ := Aside0.mk (below_step (by repeat (first | (with_reducible first | exact HB.out | apply below_alloc | apply pw_below_drewN | apply below_drew1) | exact HB.out)) hb); clear HB; have HO413 := n0_; have HB := n1_; clear n0_ n1_; clear hb ho14))
          go_loopg [5, 31] kj4 (fun kq v5 v31 w' => ∃ (x5_2 : List ByteArray) (x31_2 : Int), v31 = .int .i64 x31_2 ∧ Aside0 (crossroadlaw02_HeadNames.l0 kq l0 a1 x5_2 l0 (l0.length : Int) x31_2 = some r) ∧ Aside0 (kq ≤ kj4) ∧ Aside0 (Kd.R Kd.string 9 w' w.heap.size (fun _ => True) v5 x5_2) ∧ Aside0 (Below w.heap.size w w'))
          case atStart => exact ⟨(y411), (0), (by first | rfl | (simp; done) | (simp [*]; done)), H', ⟨Nat.le_refl _⟩, ⟨by (with_reducible repeat (first | apply Kd.R_alloc | apply Kd.R_drewN | apply Kd.R_drew)); exact HO413.out⟩, ⟨by repeat (first | (with_reducible first | exact HB.out | apply below_alloc | apply pw_below_drewN | apply below_drew1) | exact HB.out)⟩⟩
          case round =>
            clear H'
            try clear c1
            try clear p2
            try clear c4
            try clear c7
            try clear c7b0
            try clear c7b1
            try clear c8
            try clear c8b0
            try clear c8b1
            try clear c9
            try clear c12
            try clear p2
            obtain ⟨x5_2, x31_2, rfl, HA, HK2, HO_5, HB⟩ := hrel
            cases gk with
            | zero => exact absurd HA.out (by simp [crossroadlaw02_HeadNames.l0])
            | succ k2 =>
              have H := HA.out
              clear HA
              simp only [crossroadlaw02_HeadNames.l0] at H
              by_cases c15 : x31_2 < (l0.length : Int)
              · rw [if_pos c15] at H
                have c15b0 : decide (x31_2 < (l0.length : Int)) = true := decide_eq_true c15
                clear c15
                by_cases c16 : 0 ≤ x31_2
                · rw [if_pos c16] at H
                  have c16b0 : decide (0 ≤ x31_2) = true := decide_eq_true c16
                  clear c16
                  by_cases c17 : x31_2 < (l0.length : Int)
                  · rw [if_pos c17] at H
                    have c17b0 : decide (x31_2 < (l0.length : Int)) = true := decide_eq_true c17
                    clear c17
                    replace H := Option.bind_eq_some_iff.mp H
                    obtain ⟨t415, A180, H⟩ := H
                    replace H : (if ((rdOf ByteArray.empty l0 x31_2).size : Int) > 40 then (some true) else ((ascii_Token.f k2 (rdOf ByteArray.empty l0 x31_2)).bind fun t416 => (if t416 = true then (if t415.toList = ([104, 111, 115, 116] : List UInt8) then (some true) else (if t415.toList = ([99, 111, 110, 116, 101, 110, 116, 45, 108, 101, 110, 103, 116, 104] : List UInt8) then (some true) else (if t415.toList = ([116, 114, 97, 110, 115, 102, 101, 114, 45, 101, 110, 99, 111, 100, 105, 110, 103] : List UInt8) then (some true) else (if (rdOf ByteArray.empty l0 x31_2).size + 1 ≤ 9223372036854775807 then (if ((rdOf ByteArray.empty l0 x31_2) ++ (⟨#[58]⟩ : ByteArray)).size + a1.size ≤ 9223372036854775807 then (if x5_2.length < 8796093022208 then (crossroadlaw02_HeadNames.l0 k2 l0 a1 (x5_2 ++ [((rdOf ByteArray.empty l0 x31_2) ++ (⟨#[58]⟩ : ByteArray)) ++ a1]) l0 (l0.length : Int) (wrap64 (x31_2 + 1))) else (none)) else (none)) else (none))))) else (some true)))) = some r := H
                    have A18 := Aside0.mk A180
                    clear A180
                    by_cases c19 : ((rdOf ByteArray.empty l0 x31_2).size : Int) > 40
                    · rw [if_pos c19] at H
                      have c19b0 : decide (40 < ((rdOf ByteArray.empty l0 x31_2).size : Int)) = true := decide_eq_true c19
                      have c19b1 : decide (40 < (rdOf ByteArray.empty l0 x31_2).size) = true := decide_eq_true (by omega)
                      clear c19
                      obtain rfl := Option.some.inj H
                      have p414 : 0 ≤ (x31_2 : Int) := of_decide_eq_true (by first | (with_reducible assumption) | assumption)
                      have q414 : x31_2 < (l0.length : Int) := of_decide_eq_true (by first | (with_reducible assumption) | assumption)
                      obtain ⟨ad414, e414, hx414_0⟩ := Kd.at_string HR0.out x31_2 p414 q414
                      cases e414
                      replace hx414_0 := (HB.out.cell (World.block_lt_of_cell? w _ hx414_0)).trans hx414_0
                      replace p414 := eq_true p414
                      replace q414 := eq_true q414
                      go_wp2_with (first | ((with_reducible refine gate_callee (f := 16) rfl ?_); refine goesL_ (some 36) rfl rfl Try.func16 (by kernel_rfl) rfl #[.string (rdOf ByteArray.empty l0 x31_2)] rfl (by (try simp only [List.map_toArray, List.map_cons, List.map_nil]); first | done | rfl | (simp only [List.length_drop, List.length_take]; rfl)) ?_; (with_reducible refine (ascii_Lower.calls (rdOf ByteArray.empty l0 x31_2) t415 _ A18.out).mono ?_); rintro e w20 ⟨rfl, hb⟩; refine ⟨_, rfl, ?_⟩; have n0_ := Aside0.mk (Kd.R_below (by (with_reducible repeat (first | apply Kd.R_alloc | apply Kd.R_drewN | apply Kd.R_drew)); exact HO_5.out) hb); have n1_ := Aside0.mk (below_step (by repeat (first | (with_reducible first | exact HB.out | apply below_alloc | apply pw_below_drewN | apply below_drew1) | exact HB.out)) hb); clear HO_5; clear HB; have HO_5 := n0_; have HB := n1_; clear n0_ n1_; (try clear hb); (try clear hb2); (try clear hk); (try clear hi)))
                      go_ret
                      exact ⟨by first | rfl | (simp [errW_none, errW_some] <;> rfl) | (simp [*, errW_none, errW_some] <;> rfl), by repeat (first | (with_reducible first | exact HB.out | apply below_alloc | apply pw_below_drewN | apply below_drew1) | exact HB.out)⟩
                    · rw [if_neg c19] at H
                      have c19b0 : decide (40 < ((rdOf ByteArray.empty l0 x31_2).size : Int)) = false := decide_eq_false c19
                      have c19b1 : decide (40 < (rdOf ByteArray.empty l0 x31_2).size) = false := decide_eq_false (by omega)
                      clear c19
                      replace H := Option.bind_eq_some_iff.mp H
                      obtain ⟨t416, A210, H⟩ := H
                      replace H : (if t416 = true then (if t415.toList = ([104, 111, 115, 116] : List UInt8) then (some true) else (if t415.toList = ([99, 111, 110, 116, 101, 110, 116, 45, 108, 101, 110, 103, 116, 104] : List UInt8) then (some true) else (if t415.toList = ([116, 114, 97, 110, 115, 102, 101, 114, 45, 101, 110, 99, 111, 100, 105, 110, 103] : List UInt8) then (some true) else (if (rdOf ByteArray.empty l0 x31_2).size + 1 ≤ 9223372036854775807 then (if ((rdOf ByteArray.empty l0 x31_2) ++ (⟨#[58]⟩ : ByteArray)).size + a1.size ≤ 9223372036854775807 then (if x5_2.length < 8796093022208 then (crossroadlaw02_HeadNames.l0 k2 l0 a1 (x5_2 ++ [((rdOf ByteArray.empty l0 x31_2) ++ (⟨#[58]⟩ : ByteArray)) ++ a1]) l0 (l0.length : Int) (wrap64 (x31_2 + 1))) else (none)) else (none)) else (none))))) else (some true)) = some r := H
                      have A21 := Aside0.mk A210
                      clear A210
                      by_cases c22 : t416 = true
                      · subst c22
                        have H1 : (if t415.toList = ([104, 111, 115, 116] : List UInt8) then (some true) else (if t415.toList = ([99, 111, 110, 116, 101, 110, 116, 45, 108, 101, 110, 103, 116, 104] : List UInt8) then (some true) else (if t415.toList = ([116, 114, 97, 110, 115, 102, 101, 114, 45, 101, 110, 99, 111, 100, 105, 110, 103] : List UInt8) then (some true) else (if (rdOf ByteArray.empty l0 x31_2).size + 1 ≤ 9223372036854775807 then (if ((rdOf ByteArray.empty l0 x31_2) ++ (⟨#[58]⟩ : ByteArray)).size + a1.size ≤ 9223372036854775807 then (if x5_2.length < 8796093022208 then (crossroadlaw02_HeadNames.l0 k2 l0 a1 (x5_2 ++ [((rdOf ByteArray.empty l0 x31_2) ++ (⟨#[58]⟩ : ByteArray)) ++ a1]) l0 (l0.length : Int) (wrap64 (x31_2 + 1))) else (none)) else (none)) else (none))))) = some r := by rw [if_pos rfl] at H; exact H
                        clear H
                        have H := H1
                        clear H1
                        by_cases c23 : t415.toList = ([104, 111, 115, 116] : List UInt8)
                        · rw [if_pos c23] at H
                          have c23b0 : (t415.toList == ([104, 111, 115, 116] : List UInt8)) = true := beq_iff_eq.mpr c23
                          have c23b1 : (t415.toList != ([104, 111, 115, 116] : List UInt8)) = false := bne_eq_false_iff_eq.mpr c23
                          clear c23
                          obtain rfl := Option.some.inj H
                          have p414 : 0 ≤ (x31_2 : Int) := of_decide_eq_true (by first | (with_reducible assumption) | assumption)
                          have q414 : x31_2 < (l0.length : Int) := of_decide_eq_true (by first | (with_reducible assumption) | assumption)
                          obtain ⟨ad414, e414, hx414_0⟩ := Kd.at_string HR0.out x31_2 p414 q414
                          cases e414
                          replace hx414_0 := (HB.out.cell (World.block_lt_of_cell? w _ hx414_0)).trans hx414_0
                          replace p414 := eq_true p414
                          replace q414 := eq_true q414
                          go_wp2_with (first | ((with_reducible refine gate_callee (f := 16) rfl ?_); refine goesL_ (some 36) rfl rfl Try.func16 (by kernel_rfl) rfl #[.string (rdOf ByteArray.empty l0 x31_2)] rfl (by (try simp only [List.map_toArray, List.map_cons, List.map_nil]); first | done | rfl | (simp only [List.length_drop, List.length_take]; rfl)) ?_; (with_reducible refine (ascii_Lower.calls (rdOf ByteArray.empty l0 x31_2) t415 _ A18.out).mono ?_); rintro e w24 ⟨rfl, hb⟩; refine ⟨_, rfl, ?_⟩; have n0_ := Aside0.mk (Kd.R_below (by (with_reducible repeat (first | apply Kd.R_alloc | apply Kd.R_drewN | apply Kd.R_drew)); exact HO_5.out) hb); have n1_ := Aside0.mk (below_step (by repeat (first | (with_reducible first | exact HB.out | apply below_alloc | apply pw_below_drewN | apply below_drew1) | exact HB.out)) hb); clear HO_5; clear HB; have HO_5 := n0_; have HB := n1_; clear n0_ n1_; (try clear hb); (try clear hb2); (try clear hk); (try clear hi)) | (go_at_call 12; (with_reducible refine (ascii_Token.calls k2 (rdOf ByteArray.empty l0 x31_2) true _ A21.out).mono ?_); rintro e w' ⟨rfl, ⟨nd, rfl⟩⟩))
                          go_ret
                          exact ⟨by first | rfl | (simp [errW_none, errW_some] <;> rfl) | (simp [*, errW_none, errW_some] <;> rfl), by repeat (first | (with_reducible first | exact HB.out | apply below_alloc | apply pw_below_drewN | apply below_drew1) | exact HB.out)⟩
                        · rw [if_neg c23] at H
                          have c23b0 : (t415.toList == ([104, 111, 115, 116] : List UInt8)) = false := beq_eq_false_iff_ne.mpr c23
                          have c23b1 : (t415.toList != ([104, 111, 115, 116] : List UInt8)) = true := bne_iff_ne.mpr c23
                          by_cases c25 : t415.toList = ([99, 111, 110, 116, 101, 110, 116, 45, 108, 101, 110, 103, 116, 104] : List UInt8)
                          · rw [if_pos c25] at H
                            have c25b0 : (t415.toList == ([99, 111, 110, 116, 101, 110, 116, 45, 108, 101, 110, 103, 116, 104] : List UInt8)) = true := beq_iff_eq.mpr c25
                            have c25b1 : (t415.toList != ([99, 111, 110, 116, 101, 110, 116, 45, 108, 101, 110, 103, 116, 104] : List UInt8)) = false := bne_eq_false_iff_eq.mpr c25
                            clear c25
                            obtain rfl := Option.some.inj H
                            have p414 : 0 ≤ (x31_2 : Int) := of_decide_eq_true (by first | (with_reducible assumption) | assumption)
                            have q414 : x31_2 < (l0.length : Int) := of_decide_eq_true (by first | (with_reducible assumption) | assumption)
                            obtain ⟨ad414, e414, hx414_0⟩ := Kd.at_string HR0.out x31_2 p414 q414
                            cases e414
                            replace hx414_0 := (HB.out.cell (World.block_lt_of_cell? w _ hx414_0)).trans hx414_0
                            replace p414 := eq_true p414
                            replace q414 := eq_true q414
                            go_wp2_with (first | ((with_reducible refine gate_callee (f := 16) rfl ?_); refine goesL_ (some 36) rfl rfl Try.func16 (by kernel_rfl) rfl #[.string (rdOf ByteArray.empty l0 x31_2)] rfl (by (try simp only [List.map_toArray, List.map_cons, List.map_nil]); first | done | rfl | (simp only [List.length_drop, List.length_take]; rfl)) ?_; (with_reducible refine (ascii_Lower.calls (rdOf ByteArray.empty l0 x31_2) t415 _ A18.out).mono ?_); rintro e w26 ⟨rfl, hb⟩; refine ⟨_, rfl, ?_⟩; have n0_ := Aside0.mk (Kd.R_below (by (with_reducible repeat (first | apply Kd.R_alloc | apply Kd.R_drewN | apply Kd.R_drew)); exact HO_5.out) hb); have n1_ := Aside0.mk (below_step (by repeat (first | (with_reducible first | exact HB.out | apply below_alloc | apply pw_below_drewN | apply below_drew1) | exact HB.out)) hb); clear HO_5; clear HB; have HO_5 := n0_; have HB := n1_; clear n0_ n1_; (try clear hb); (try clear hb2); (try clear hk); (try clear hi)) | (go_at_call 12; (with_reducible refine (ascii_Token.calls k2 (rdOf ByteArray.empty l0 x31_2) true _ A21.out).mono ?_); rintro e w' ⟨rfl, ⟨nd, rfl⟩⟩))
                            go_ret
                            exact ⟨by first | rfl | (simp [errW_none, errW_some] <;> rfl) | (simp [*, errW_none, errW_some] <;> rfl), by repeat (first | (with_reducible first | exact HB.out | apply below_alloc | apply pw_below_drewN | apply below_drew1) | exact HB.out)⟩
                          · rw [if_neg c25] at H
                            have c25b0 : (t415.toList == ([99, 111, 110, 116, 101, 110, 116, 45, 108, 101, 110, 103, 116, 104] : List UInt8)) = false := beq_eq_false_iff_ne.mpr c25
                            have c25b1 : (t415.toList != ([99, 111, 110, 116, 101, 110, 116, 45, 108, 101, 110, 103, 116, 104] : List UInt8)) = true := bne_iff_ne.mpr c25
                            by_cases c27 : t415.toList = ([116, 114, 97, 110, 115, 102, 101, 114, 45, 101, 110, 99, 111, 100, 105, 110, 103] : List UInt8)
                            · rw [if_pos c27] at H
                              have c27b0 : (t415.toList == ([116, 114, 97, 110, 115, 102, 101, 114, 45, 101, 110, 99, 111, 100, 105, 110, 103] : List UInt8)) = true := beq_iff_eq.mpr c27
                              have c27b1 : (t415.toList != ([116, 114, 97, 110, 115, 102, 101, 114, 45, 101, 110, 99, 111, 100, 105, 110, 103] : List UInt8)) = false := bne_eq_false_iff_eq.mpr c27
                              clear c27
                              obtain rfl := Option.some.inj H
                              have p414 : 0 ≤ (x31_2 : Int) := of_decide_eq_true (by first | (with_reducible assumption) | assumption)
                              have q414 : x31_2 < (l0.length : Int) := of_decide_eq_true (by first | (with_reducible assumption) | assumption)
                              obtain ⟨ad414, e414, hx414_0⟩ := Kd.at_string HR0.out x31_2 p414 q414
                              cases e414
                              replace hx414_0 := (HB.out.cell (World.block_lt_of_cell? w _ hx414_0)).trans hx414_0
                              replace p414 := eq_true p414
                              replace q414 := eq_true q414
                              go_wp2_with (first | ((with_reducible refine gate_callee (f := 16) rfl ?_); refine goesL_ (some 36) rfl rfl Try.func16 (by kernel_rfl) rfl #[.string (rdOf ByteArray.empty l0 x31_2)] rfl (by (try simp only [List.map_toArray, List.map_cons, List.map_nil]); first | done | rfl | (simp only [List.length_drop, List.length_take]; rfl)) ?_; (with_reducible refine (ascii_Lower.calls (rdOf ByteArray.empty l0 x31_2) t415 _ A18.out).mono ?_); rintro e w28 ⟨rfl, hb⟩; refine ⟨_, rfl, ?_⟩; have n0_ := Aside0.mk (Kd.R_below (by (with_reducible repeat (first | apply Kd.R_alloc | apply Kd.R_drewN | apply Kd.R_drew)); exact HO_5.out) hb); have n1_ := Aside0.mk (below_step (by repeat (first | (with_reducible first | exact HB.out | apply below_alloc | apply pw_below_drewN | apply below_drew1) | exact HB.out)) hb); clear HO_5; clear HB; have HO_5 := n0_; have HB := n1_; clear n0_ n1_; (try clear hb); (try clear hb2); (try clear hk); (try clear hi)) | (go_at_call 12; (with_reducible refine (ascii_Token.calls k2 (rdOf ByteArray.empty l0 x31_2) true _ A21.out).mono ?_); rintro e w' ⟨rfl, ⟨nd, rfl⟩⟩))
                              go_ret
                              exact ⟨by first | rfl | (simp [errW_none, errW_some] <;> rfl) | (simp [*, errW_none, errW_some] <;> rfl), by repeat (first | (with_reducible first | exact HB.out | apply below_alloc | apply pw_below_drewN | apply below_drew1) | exact HB.out)⟩
                            · rw [if_neg c27] at H
                              have c27b0 : (t415.toList == ([116, 114, 97, 110, 115, 102, 101, 114, 45, 101, 110, 99, 111, 100, 105, 110, 103] : List UInt8)) = false := beq_eq_false_iff_ne.mpr c27
                              have c27b1 : (t415.toList != ([116, 114, 97, 110, 115, 102, 101, 114, 45, 101, 110, 99, 111, 100, 105, 110, 103] : List UInt8)) = true := bne_iff_ne.mpr c27
                              by_cases c29 : (rdOf ByteArray.empty l0 x31_2).size + 1 ≤ 9223372036854775807
                              · rw [if_pos c29] at H
                                have c29b0 := eq_true c29
                                have c29b1 : decide ((rdOf ByteArray.empty l0 x31_2).size + 1 ≤ 9223372036854775807) = true := decide_eq_true c29
                                try have c29b2 : (9223372036854775807 < (rdOf ByteArray.empty l0 x31_2).size + 1) = False := eq_false (Nat.not_lt.2 c29)
                                by_cases c30 : ((rdOf ByteArray.empty l0 x31_2) ++ (⟨#[58]⟩ : ByteArray)).size + a1.size ≤ 9223372036854775807
                                · rw [if_pos c30] at H
                                  have c30b0 := eq_true c30
                                  have c30b1 : decide (((rdOf ByteArray.empty l0 x31_2) ++ (⟨#[58]⟩ : ByteArray)).size + a1.size ≤ 9223372036854775807) = true := decide_eq_true c30
                                  try have c30b2 : (9223372036854775807 < ((rdOf ByteArray.empty l0 x31_2) ++ (⟨#[58]⟩ : ByteArray)).size + a1.size) = False := eq_false (Nat.not_lt.2 c30)
                                  try have c30b3 : (9223372036854775807 < (rdOf ByteArray.empty l0 x31_2).size + 1 + a1.size) = False := eq_false (by have h_ := c30; simp only [ByteArray.size_append] at h_; have e0_ : (⟨#[58]⟩ : ByteArray).size = 1 := rfl; omega)
                                  by_cases c31 : x5_2.length < 8796093022208
                                  · rw [if_pos c31] at H
                                    have LMc31 := Aside0.mk c31
                                    clear c31
                                    obtain ⟨y417, hy417⟩ : ∃ y_ : List ByteArray, y_ = (x5_2 ++ [((rdOf ByteArray.empty l0 x31_2) ++ (⟨#[58]⟩ : ByteArray)) ++ a1]) := ⟨_, rfl⟩
                                    replace H : (crossroadlaw02_HeadNames.l0 k2 l0 a1 y417 l0 (l0.length : Int) (wrap64 (x31_2 + 1))) = some r := by first | (rw [hy417]; with_reducible exact H) | (have H2_ := (Option.bind_some _ _).symm.trans H; rw [hy417]; with_reducible exact H2_) | (have H2_ := (Option.bind_some _ _).symm.trans H; with_reducible exact H2_) | with_reducible exact H | (rw [hy417]; exact H) | exact H
                                    have Ny417 := Aside0.mk hy417
                                    clear hy417
                                    have H' := Aside0.mk H
                                    clear H
                                    have p414 : 0 ≤ (x31_2 : Int) := of_decide_eq_true (by first | (with_reducible assumption) | assumption)
                                    have q414 : x31_2 < (l0.length : Int) := of_decide_eq_true (by first | (with_reducible assumption) | assumption)
                                    obtain ⟨ad414, e414, hx414_0⟩ := Kd.at_string HR0.out x31_2 p414 q414
                                    cases e414
                                    replace hx414_0 := (HB.out.cell (World.block_lt_of_cell? w _ hx414_0)).trans hx414_0
                                    replace p414 := eq_true p414
                                    replace q414 := eq_true q414
                                    go_wp2_with (first | ((with_reducible refine gate_callee (f := 16) rfl ?_); refine goesL_ (some 36) rfl rfl Try.func16 (by kernel_rfl) rfl #[.string (rdOf ByteArray.empty l0 x31_2)] rfl (by (try simp only [List.map_toArray, List.map_cons, List.map_nil]); first | done | rfl | (simp only [List.length_drop, List.length_take]; rfl)) ?_; (with_reducible refine (ascii_Lower.calls (rdOf ByteArray.empty l0 x31_2) t415 _ A18.out).mono ?_); rintro e w32 ⟨rfl, hb⟩; refine ⟨_, rfl, ?_⟩; have n0_ := Aside0.mk (Kd.R_below (by (with_reducible repeat (first | apply Kd.R_alloc | apply Kd.R_drewN | apply Kd.R_drew)); exact HO_5.out) hb); have n1_ := Aside0.mk (below_step (by repeat (first | (with_reducible first | exact HB.out | apply below_alloc | apply pw_below_drewN | apply below_drew1) | exact HB.out)) hb); clear HO_5; clear HB; have HO_5 := n0_; have HB := n1_; clear n0_ n1_; (try clear hb); (try clear hb2); (try clear hk); (try clear hi)) | (go_at_call 12; (with_reducible refine (ascii_Token.calls k2 (rdOf ByteArray.empty l0 x31_2) true _ A21.out).mono ?_); rintro e w' ⟨rfl, ⟨nd, rfl⟩⟩) | ((with_reducible refine gate_builtin (b := .append) (xs := #[.tmp 57, .tmp 62]) rfl ?_); (try (refine gate_guard (by rfl) ?_; dsimp only)); at_builtin; refine Kd.R_append Kd.string (w0 := w) w.heap.size rfl (.tmp 57) (.tmp 62) 24 9 (.string ⟨#[]⟩) 16 rfl Try.underlying24 info9 rfl (by decide) (by omega) u5 x5_2 (((rdOf ByteArray.empty l0 x31_2) ++ (⟨#[58]⟩ : ByteArray)) ++ a1) [.string (((rdOf ByteArray.empty l0 x31_2) ++ (⟨#[58]⟩ : ByteArray)) ++ a1)] (fun _ => True) (fun _ => False) rfl rfl ?aP (fun _ hk => hk.elim) ?aF ?aO ?aB ?aS ?aL ?_; (case aP => exact rfl); (case aB => exact (by repeat (first | (with_reducible first | exact HB.out | apply below_alloc | apply pw_below_drewN | apply below_drew1) | exact HB.out))); (case aF => exact (fun _ _ => trivial)); (case aO => exact (by (with_reducible repeat (first | apply Kd.R_alloc | apply Kd.R_drewN | apply Kd.R_drew)); exact HO_5.out)); (case aS => exact (below_size (by repeat (first | (with_reducible first | exact HB.out | apply below_alloc | apply pw_below_drewN | apply below_drew1) | exact HB.out)))); (case aL => have := LMc31.out; omega); intro v418 w33 ho hb hg hat; rw [← Ny417.out] at ho; have n0_ := Aside0.mk (hb); have n1_ := Aside0.mk (ho); clear HB; clear HO_5; have HB := n0_; have HO419 := n1_; clear n0_ n1_; clear ho hb hg hat))
                                    go_roundg k2
                                    case measure => have := HJ4.out; have := HK2.out; omega
                                    case rel => exact ⟨(y417), (wrap64 (x31_2 + 1)), (by first | rfl | (simp; done) | (simp [*]; done)), H', ⟨by have := HJ4.out; have := HK2.out; omega⟩, ⟨by (with_reducible repeat (first | apply Kd.R_alloc | apply Kd.R_drewN | apply Kd.R_drew)); exact HO419.out⟩, ⟨by repeat (first | (with_reducible first | exact HB.out | apply below_alloc | apply pw_below_drewN | apply below_drew1) | exact HB.out)⟩⟩
                                  · rw [if_neg c31] at H
                                    exact absurd H (by simp)
                                · rw [if_neg c30] at H
                                  exact absurd H (by simp)
                              · rw [if_neg c29] at H
                                exact absurd H (by simp)
                      · replace c22 := Bool.eq_false_iff.mpr c22
                        subst c22
                        have H1 : (some true) = some r := by rw [if_neg (show ¬ (false = true) by decide)] at H; exact H
                        clear H
                        have H := H1
                        clear H1
                        obtain rfl := Option.some.inj H
                        have p414 : 0 ≤ (x31_2 : Int) := of_decide_eq_true (by first | (with_reducible assumption) | assumption)
                        have q414 : x31_2 < (l0.length : Int) := of_decide_eq_true (by first | (with_reducible assumption) | assumption)
                        obtain ⟨ad414, e414, hx414_0⟩ := Kd.at_string HR0.out x31_2 p414 q414
                        cases e414
                        replace hx414_0 := (HB.out.cell (World.block_lt_of_cell? w _ hx414_0)).trans hx414_0
                        replace p414 := eq_true p414
                        replace q414 := eq_true q414
                        go_wp2_with (first | ((with_reducible refine gate_callee (f := 16) rfl ?_); refine goesL_ (some 36) rfl rfl Try.func16 (by kernel_rfl) rfl #[.string (rdOf ByteArray.empty l0 x31_2)] rfl (by (try simp only [List.map_toArray, List.map_cons, List.map_nil]); first | done | rfl | (simp only [List.length_drop, List.length_take]; rfl)) ?_; (with_reducible refine (ascii_Lower.calls (rdOf ByteArray.empty l0 x31_2) t415 _ A18.out).mono ?_); rintro e w34 ⟨rfl, hb⟩; refine ⟨_, rfl, ?_⟩; have n0_ := Aside0.mk (Kd.R_below (by (with_reducible repeat (first | apply Kd.R_alloc | apply Kd.R_drewN | apply Kd.R_drew)); exact HO_5.out) hb); have n1_ := Aside0.mk (below_step (by repeat (first | (with_reducible first | exact HB.out | apply below_alloc | apply pw_below_drewN | apply below_drew1) | exact HB.out)) hb); clear HO_5; clear HB; have HO_5 := n0_; have HB := n1_; clear n0_ n1_; (try clear hb); (try clear hb2); (try clear hk); (try clear hi)) | (go_at_call 12; (with_reducible refine (ascii_Token.calls k2 (rdOf ByteArray.empty l0 x31_2) false _ A21.out).mono ?_); rintro e w' ⟨rfl, ⟨nd, rfl⟩⟩))
                        go_ret
                        exact ⟨by first | rfl | (simp [errW_none, errW_some] <;> rfl) | (simp [*, errW_none, errW_some] <;> rfl), by repeat (first | (with_reducible first | exact HB.out | apply below_alloc | apply pw_below_drewN | apply below_drew1) | exact HB.out)⟩
                  · rw [if_neg c17] at H
                    exact absurd H (by simp)
                · rw [if_neg c16] at H
                  exact absurd H (by simp)
              · rw [if_neg c15] at H
                have c15b0 : decide (x31_2 < (l0.length : Int)) = false := decide_eq_false c15
                clear c15
                replace H := Option.bind_eq_some_iff.mp H
                obtain ⟨⟨t420, t421, t422, t425, t426, t427, t428⟩, A350, H⟩ := H
                replace H : (if t428 = 0 then (if (t422.length : Int) = (wrap64 ((l0.length : Int) + 1)) then (if 0 < (t422.length : Int) then (crossroadlaw02_HeadNames.j2 k2 l0 a1 (!((((rd_T27 t422 0).f0).toList) == ([104, 111, 115, 116] : List UInt8)) || (!((((rd_T27 t422 0).f1).toList) == ([97] : List UInt8)))) t420 t421 t422 t425 t426 t427 t428) else (none)) else (crossroadlaw02_HeadNames.j2 k2 l0 a1 true t420 t421 t422 t425 t426 t427 t428)) else (crossroadlaw02_HeadNames.j2 k2 l0 a1 true t420 t421 t422 t425 t426 t427 t428)) = some r := H
                have A35 := Aside0.mk A350
                clear A350
                have HC36 := Aside0.mk H
                clear H
                obtain ⟨Ao37, co37, eo37⟩ := Kd.R_slice HO_5.out
                subst eo37
                go_upto_region 15 with (first | ((with_reducible refine gate_callee (f := 11) rfl ?_); refine goesL_ (some 66) rfl rfl Try.func11 (by kernel_rfl) rfl #[.slice Ao37 x5_2.length co37] rfl (by (try simp only [List.map_toArray, List.map_cons, List.map_nil]); first | done | rfl | (simp only [List.length_drop, List.length_take]; rfl)) ?_; (with_reducible refine (head_Parse.calls k2 _ _ x5_2 t420 t421 t422 t425 t426 t427 t428 _ ?side1 ?side2 A35.out).mono ?_); (case side1 => repeat (first | exact (Kd.R_reads' HO_5.out).2.2 | (with_reducible refine Kd.C_alloc ?_ _) | (with_reducible refine Kd.C_drewN ?_ _) | (with_reducible refine Kd.C_drew ?_))); (case side2 => exact (Kd.R_reads' HO_5.out).2.1); rintro e w38 ⟨v423, rfl, ho0, hb⟩; refine ⟨_, rfl, ?_⟩; have n0_ := Aside0.mk (Kd.R_below (by (with_reducible repeat (first | apply Kd.R_alloc | apply Kd.R_drewN | apply Kd.R_drew)); exact HO_5.out) hb); have n1_ := Aside0.mk (Kd.R_lower ho0 (below_size (by repeat (first | (with_reducible first | exact HB.out | apply below_alloc | apply pw_below_drewN | apply below_drew1) | exact HB.out)))); have n2_ := Aside0.mk (below_step (by repeat (first | (with_reducible first | exact HB.out | apply below_alloc | apply pw_below_drewN | apply below_drew1) | exact HB.out)) hb); clear HO_5; clear HB; have HO_5 := n0_; have HO424 := n1_; have HB := n2_; clear n0_ n1_ n2_; (try clear hb); (try clear hb2); (try clear hk); (try clear hi); (try clear ho0)) | ((with_reducible refine gate_dst (N := 9) rfl ?_); (try (refine gate_guard (by rfl) ?_; dsimp only)); refine box_event ?hg (N := 9) ?hd (cs := #[.string (⟨#[]⟩ : ByteArray), .string (⟨#[]⟩ : ByteArray), .slice none 0 0, .string (⟨#[]⟩ : ByteArray), .bool false, .int .i64 0, .int .i64 0]) (t := 32) ?hr ?_; (case hd => rfl); (case hg => rfl); (case hr => first | (go_simp; done) | (go_simp; rfl)); intro gb429 hg w39 hbox hb; have n0_ := Aside0.mk (Kd.R_below (by (with_reducible repeat (first | apply Kd.R_alloc | apply Kd.R_drewN | apply Kd.R_drew)); exact HO_5.out) hb); have n1_ := Aside0.mk (Kd.R_below (by (with_reducible repeat (first | apply Kd.R_alloc | apply Kd.R_drewN | apply Kd.R_drew)); exact HO424.out) hb); have n2_ := Aside0.mk (below_step (by repeat (first | (with_reducible first | exact HB.out | apply below_alloc | apply pw_below_drewN | apply below_drew1) | exact HB.out)) hb); have n3_ := Aside0.mk (hbox); have n4_ := Aside0.mk ((by rw [hg]; exact (below_size (by repeat (first | (with_reducible first | exact HB.out | apply below_alloc | apply pw_below_drewN | apply below_drew1) | exact HB.out))) : w.heap.size ≤ gb429)); have n5_ := Aside0.mk ((by rw [hg]; exact (below_size (by repeat (first | (with_reducible first | exact HB.out | apply below_alloc | apply pw_below_drewN | apply below_drew1) | exact HB.out))) : w.heap.size ≤ gb429)); clear HO_5; clear HO424; clear HB; have HO_5 := n0_; have HO424 := n1_; have HB := n2_; have BK429 := n3_; have GW429 := n4_; have GE429 := n5_; clear n0_ n1_ n2_ n3_ n4_ n5_; clear hb hbox hg; have hcz40_0 : w39.cell? ⟨gb429, 0, none⟩ = some (.string (⟨#[]⟩ : ByteArray)) := (blk_cell BK429.out 0).trans rfl; have hcz40_1 : w39.cell? ⟨gb429, 1, none⟩ = some (.string (⟨#[]⟩ : ByteArray)) := (blk_cell BK429.out 1).trans rfl; have hcz40_2 : w39.cell? ⟨gb429, 2, none⟩ = some (.slice none 0 0) := (blk_cell BK429.out 2).trans rfl; have hcz40_3 : w39.cell? ⟨gb429, 3, none⟩ = some (.string (⟨#[]⟩ : ByteArray)) := (blk_cell BK429.out 3).trans rfl; have hcz40_4 : w39.cell? ⟨gb429, 4, none⟩ = some (.bool false) := (blk_cell BK429.out 4).trans rfl; have hcz40_5 : w39.cell? ⟨gb429, 5, none⟩ = some (.int .i64 0) := (blk_cell BK429.out 5).trans rfl; have hcz40_6 : w39.cell? ⟨gb429, 6, none⟩ = some (.int .i64 0) := (blk_cell BK429.out 6).trans rfl; have hfz40_0 := blk_frozen BK429.out 0; have hfz40_1 := blk_frozen BK429.out 1; have hfz40_2 := blk_frozen BK429.out 2; have hfz40_3 := blk_frozen BK429.out 3; have hfz40_4 := blk_frozen BK429.out 4; have hfz40_5 := blk_frozen BK429.out 5; have hfz40_6 := blk_frozen BK429.out 6; obtain ⟨Ao41, co41, eo41⟩ := Kd.R_slice HO424.out; subst eo41))
                (try simp only [Act.put, List.setIfInBounds_toArray, List.set_cons_zero, List.set_cons_succ])
                go_cut [88] (fun v88 wc => ∃ (kq : Nat) (x88_35 : Bool), v88 = .bool x88_35 ∧ Aside0 (crossroadlaw02_HeadNames.j2 kq l0 a1 x88_35 t420 t421 t422 t425 t426 t427 t428 = some r) ∧ Aside0 (kq ≤ k2) ∧ Aside0 (Kd.R k27 27 wc w.heap.size (fun _ => True) (.slice Ao41 t422.length co41) t422) ∧ Aside0 (wc.heap[gb429]? = some (.cells #[.string t420, .string t421, (.slice Ao41 t422.length co41), .string t425, .bool t426, .int .i64 t427, .int .i64 t428] 32 (0, 0))) ∧ Aside0 (Below w.heap.size w wc))
                case first =>
                  have H := HC36.out
                  clear HC36
                  by_cases c42 : t428 = 0
                  · rw [if_pos c42] at H
                    have c42b0 : (t428 == 0) = true := beq_iff_eq.mpr c42
                    have c42b1 : (t428 != 0) = false := bne_eq_false_iff_eq.mpr c42
                    clear c42
                    (first | rw [c42b0] | (simp only [i64_w, i32_w]; rw [c42b0]) | skip)
                    by_cases c43 : (t422.length : Int) = (wrap64 ((l0.length : Int) + 1))
                    · rw [if_pos c43] at H
                      have c43b0 : ((t422.length : Int) == (wrap64 ((l0.length : Int) + 1))) = true := beq_iff_eq.mpr c43
                      have c43b1 : ((t422.length : Int) != (wrap64 ((l0.length : Int) + 1))) = false := bne_eq_false_iff_eq.mpr c43
                      clear c43
                      by_cases c44 : 0 < (t422.length : Int)
                      · rw [if_pos c44] at H
                        have c44b0 : decide (0 < (t422.length : Int)) = true := decide_eq_true c44
                        have c44b1 : decide (0 < t422.length) = true := decide_eq_true (by omega)
                        clear c44
                        have H' := Aside0.mk H
                        clear H
                        have hcz45_0 : w39.cell? ⟨gb429, 0, none⟩ = some (.string (⟨#[]⟩ : ByteArray)) := (blk_cell BK429.out 0).trans rfl
                        have hcz45_1 : w39.cell? ⟨gb429, 1, none⟩ = some (.string (⟨#[]⟩ : ByteArray)) := (blk_cell BK429.out 1).trans rfl
                        have hcz45_2 : w39.cell? ⟨gb429, 2, none⟩ = some (.slice none 0 0) := (blk_cell BK429.out 2).trans rfl
                        have hcz45_3 : w39.cell? ⟨gb429, 3, none⟩ = some (.string (⟨#[]⟩ : ByteArray)) := (blk_cell BK429.out 3).trans rfl
                        have hcz45_4 : w39.cell? ⟨gb429, 4, none⟩ = some (.bool false) := (blk_cell BK429.out 4).trans rfl
                        have hcz45_5 : w39.cell? ⟨gb429, 5, none⟩ = some (.int .i64 0) := (blk_cell BK429.out 5).trans rfl
                        have hcz45_6 : w39.cell? ⟨gb429, 6, none⟩ = some (.int .i64 0) := (blk_cell BK429.out 6).trans rfl
                        have hfz45_0 := blk_frozen BK429.out 0
                        have hfz45_1 := blk_frozen BK429.out 1
                        have hfz45_2 := blk_frozen BK429.out 2
                        have hfz45_3 := blk_frozen BK429.out 3
                        have hfz45_4 := blk_frozen BK429.out 4
                        have hfz45_5 := blk_frozen BK429.out 5
                        have hfz45_6 := blk_frozen BK429.out 6
                        have p430 : 0 ≤ (0 : Int) := (by omega)
                        have q430 : 0 < (t422.length : Int) := of_decide_eq_true (by first | (with_reducible assumption) | assumption)
                        obtain ⟨ad430, e430, hx430_0, hx430_1⟩ := at_T27 (Kd.R_reads' HO424.out).2.2 0 p430 q430
                        cases e430
                        have qi430 : (0 < t422.length) = True := eq_true (by omega)
                        (try rw [show ((0 : Int)).toNat = 0 from rfl] at hx430_0)
                        (try rw [show 0 * 2 = 0 from rfl] at hx430_0)
                        (try rw [Addr.add_zero'] at hx430_0)
                        (try rw [show ((0 : Int)).toNat = 0 from rfl] at hx430_1)
                        (try rw [show 0 * 2 = 0 from rfl] at hx430_1)
                        (try rw [Addr.add_zero'] at hx430_1)
                        have hn430_0 : ad430.block ≠ gb429 := Kd.own_blk (Kd.R_ne HO424.out BK429.out (by decide))
                        have hn430_1 : ad430.block ≠ gb429 := Kd.own_blk (Kd.R_ne HO424.out BK429.out (by decide))
                        have hn430_2 : ad430.block ≠ gb429 := Kd.own_blk (Kd.R_ne HO424.out BK429.out (by decide))
                        have hn430_3 : ad430.block ≠ gb429 := Kd.own_blk (Kd.R_ne HO424.out BK429.out (by decide))
                        have hn430_4 : ad430.block ≠ gb429 := Kd.own_blk (Kd.R_ne HO424.out BK429.out (by decide))
                        have hn430_5 : ad430.block ≠ gb429 := Kd.own_blk (Kd.R_ne HO424.out BK429.out (by decide))
                        have hn430_6 : ad430.block ≠ gb429 := Kd.own_blk (Kd.R_ne HO424.out BK429.out (by decide))
                        replace hx430_0 := (cell_far (p := ⟨gb429, 0, none⟩) (by first | (rw [add_block]; exact hn430_0) | (show (Addr.add _ _).block ≠ _; rw [add_block]; exact hn430_0) | exact hn430_0) (.string t420)).trans hx430_0
                        replace hx430_1 := (cell_far (p := ⟨gb429, 0, none⟩) (by first | (rw [add_block]; exact hn430_0) | (show (Addr.add _ _).block ≠ _; rw [add_block]; exact hn430_0) | exact hn430_0) (.string t420)).trans hx430_1
                        replace hx430_0 := (cell_far (p := ⟨gb429, 1, none⟩) (by first | (rw [add_block]; exact hn430_1) | (show (Addr.add _ _).block ≠ _; rw [add_block]; exact hn430_1) | exact hn430_1) (.string t421)).trans hx430_0
                        replace hx430_1 := (cell_far (p := ⟨gb429, 1, none⟩) (by first | (rw [add_block]; exact hn430_1) | (show (Addr.add _ _).block ≠ _; rw [add_block]; exact hn430_1) | exact hn430_1) (.string t421)).trans hx430_1
                        replace hx430_0 := (cell_far (p := ⟨gb429, 2, none⟩) (by first | (rw [add_block]; exact hn430_2) | (show (Addr.add _ _).block ≠ _; rw [add_block]; exact hn430_2) | exact hn430_2) (.slice (some ad430) t422.length co41)).trans hx430_0
                        replace hx430_1 := (cell_far (p := ⟨gb429, 2, none⟩) (by first | (rw [add_block]; exact hn430_2) | (show (Addr.add _ _).block ≠ _; rw [add_block]; exact hn430_2) | exact hn430_2) (.slice (some ad430) t422.length co41)).trans hx430_1
                        replace hx430_0 := (cell_far (p := ⟨gb429, 3, none⟩) (by first | (rw [add_block]; exact hn430_3) | (show (Addr.add _ _).block ≠ _; rw [add_block]; exact hn430_3) | exact hn430_3) (.string t425)).trans hx430_0
                        replace hx430_1 := (cell_far (p := ⟨gb429, 3, none⟩) (by first | (rw [add_block]; exact hn430_3) | (show (Addr.add _ _).block ≠ _; rw [add_block]; exact hn430_3) | exact hn430_3) (.string t425)).trans hx430_1
                        replace hx430_0 := (cell_far (p := ⟨gb429, 4, none⟩) (by first | (rw [add_block]; exact hn430_4) | (show (Addr.add _ _).block ≠ _; rw [add_block]; exact hn430_4) | exact hn430_4) (.bool t426)).trans hx430_0
                        replace hx430_1 := (cell_far (p := ⟨gb429, 4, none⟩) (by first | (rw [add_block]; exact hn430_4) | (show (Addr.add _ _).block ≠ _; rw [add_block]; exact hn430_4) | exact hn430_4) (.bool t426)).trans hx430_1
                        replace hx430_0 := (cell_far (p := ⟨gb429, 5, none⟩) (by first | (rw [add_block]; exact hn430_5) | (show (Addr.add _ _).block ≠ _; rw [add_block]; exact hn430_5) | exact hn430_5) (.int .i64 t427)).trans hx430_0
                        replace hx430_1 := (cell_far (p := ⟨gb429, 5, none⟩) (by first | (rw [add_block]; exact hn430_5) | (show (Addr.add _ _).block ≠ _; rw [add_block]; exact hn430_5) | exact hn430_5) (.int .i64 t427)).trans hx430_1
                        replace hx430_0 := (cell_far (p := ⟨gb429, 6, none⟩) (by first | (rw [add_block]; exact hn430_6) | (show (Addr.add _ _).block ≠ _; rw [add_block]; exact hn430_6) | exact hn430_6) (.int .i64 t428)).trans hx430_0
                        replace hx430_1 := (cell_far (p := ⟨gb429, 6, none⟩) (by first | (rw [add_block]; exact hn430_6) | (show (Addr.add _ _).block ≠ _; rw [add_block]; exact hn430_6) | exact hn430_6) (.int .i64 t428)).trans hx430_1
                        clear hn430_0
                        clear hn430_1
                        clear hn430_2
                        clear hn430_3
                        clear hn430_4
                        clear hn430_5
                        clear hn430_6
                        replace p430 := eq_true p430
                        replace q430 := eq_true q430
                        go_wp2
                        go_meet
                        case rel => exact ⟨_, ((!((((rd_T27 t422 0).f0).toList) == ([104, 111, 115, 116] : List UInt8)) || (!((((rd_T27 t422 0).f1).toList) == ([97] : List UInt8))))), (by first | rfl | (simp; done) | (simp [*]; done)), H', ⟨by have := HJ4.out; have := HK2.out; first | omega | exact Nat.le_refl _⟩, ⟨by (with_reducible repeat (first | apply Kd.R_alloc | apply Kd.R_drewN | apply Kd.R_drew)); exact Kd.R_mono (Kd.R_far (p := ⟨gb429, 6, none⟩) (Kd.R_far (p := ⟨gb429, 5, none⟩) (Kd.R_far (p := ⟨gb429, 4, none⟩) (Kd.R_far (p := ⟨gb429, 3, none⟩) (Kd.R_far (p := ⟨gb429, 2, none⟩) (Kd.R_far (p := ⟨gb429, 1, none⟩) (Kd.R_far (p := ⟨gb429, 0, none⟩) (Kd.R_types HO424.out BK429.out (by decide)) (fun _ hk => hk.2) (.string t420)) (fun _ hk => hk.2) (.string t421)) (fun _ hk => hk.2) (.slice (some ad430) t422.length co41)) (fun _ hk => hk.2) (.string t425)) (fun _ hk => hk.2) (.bool t426)) (fun _ hk => hk.2) (.int .i64 t427)) (fun _ hk => hk.2) (.int .i64 t428)) (fun _ hk => trivial)⟩, ⟨by (with_reducible repeat (first | refine blk_drewN ?_ _ | refine blk_drew ?_ | refine blk_alloc ?_ _)); refine blk_put (cs := #[.string t420, .string t421, .slice (some ad430) t422.length co41, .string t425, .bool t426, .int .i64 t427, .int .i64 0]) ?_ 6 _ rfl; (with_reducible repeat (first | refine blk_drewN ?_ _ | refine blk_drew ?_ | refine blk_alloc ?_ _)); refine blk_put (cs := #[.string t420, .string t421, .slice (some ad430) t422.length co41, .string t425, .bool t426, .int .i64 0, .int .i64 0]) ?_ 5 _ rfl; (with_reducible repeat (first | refine blk_drewN ?_ _ | refine blk_drew ?_ | refine blk_alloc ?_ _)); refine blk_put (cs := #[.string t420, .string t421, .slice (some ad430) t422.length co41, .string t425, .bool false, .int .i64 0, .int .i64 0]) ?_ 4 _ rfl; (with_reducible repeat (first | refine blk_drewN ?_ _ | refine blk_drew ?_ | refine blk_alloc ?_ _)); refine blk_put (cs := #[.string t420, .string t421, .slice (some ad430) t422.length co41, .string (⟨#[]⟩ : ByteArray), .bool false, .int .i64 0, .int .i64 0]) ?_ 3 _ rfl; (with_reducible repeat (first | refine blk_drewN ?_ _ | refine blk_drew ?_ | refine blk_alloc ?_ _)); refine blk_put (cs := #[.string t420, .string t421, .slice none 0 0, .string (⟨#[]⟩ : ByteArray), .bool false, .int .i64 0, .int .i64 0]) ?_ 2 _ rfl; (with_reducible repeat (first | refine blk_drewN ?_ _ | refine blk_drew ?_ | refine blk_alloc ?_ _)); refine blk_put (cs := #[.string t420, .string (⟨#[]⟩ : ByteArray), .slice none 0 0, .string (⟨#[]⟩ : ByteArray), .bool false, .int .i64 0, .int .i64 0]) ?_ 1 _ rfl; (with_reducible repeat (first | refine blk_drewN ?_ _ | refine blk_drew ?_ | refine blk_alloc ?_ _)); refine blk_put (cs := #[.string (⟨#[]⟩ : ByteArray), .string (⟨#[]⟩ : ByteArray), .slice none 0 0, .string (⟨#[]⟩ : ByteArray), .bool false, .int .i64 0, .int .i64 0]) ?_ 0 _ rfl; (with_reducible repeat (first | refine blk_drewN ?_ _ | refine blk_drew ?_ | refine blk_alloc ?_ _)); exact BK429.out⟩, ⟨by repeat (first | (with_reducible first | exact HB.out | apply below_alloc | apply pw_below_drewN | apply below_drew1 | refine below_set ?_ GE429.out) | exact HB.out)⟩⟩
                      · rw [if_neg c44] at H
                        exact absurd H (by simp)
                    · rw [if_neg c43] at H
                      have c43b0 : ((t422.length : Int) == (wrap64 ((l0.length : Int) + 1))) = false := beq_eq_false_iff_ne.mpr c43
                      have c43b1 : ((t422.length : Int) != (wrap64 ((l0.length : Int) + 1))) = true := bne_iff_ne.mpr c43
                      have H' := Aside0.mk H
                      clear H
                      have hcz46_0 : w39.cell? ⟨gb429, 0, none⟩ = some (.string (⟨#[]⟩ : ByteArray)) := (blk_cell BK429.out 0).trans rfl
                      have hcz46_1 : w39.cell? ⟨gb429, 1, none⟩ = some (.string (⟨#[]⟩ : ByteArray)) := (blk_cell BK429.out 1).trans rfl
                      have hcz46_2 : w39.cell? ⟨gb429, 2, none⟩ = some (.slice none 0 0) := (blk_cell BK429.out 2).trans rfl
                      have hcz46_3 : w39.cell? ⟨gb429, 3, none⟩ = some (.string (⟨#[]⟩ : ByteArray)) := (blk_cell BK429.out 3).trans rfl
                      have hcz46_4 : w39.cell? ⟨gb429, 4, none⟩ = some (.bool false) := (blk_cell BK429.out 4).trans rfl
                      have hcz46_5 : w39.cell? ⟨gb429, 5, none⟩ = some (.int .i64 0) := (blk_cell BK429.out 5).trans rfl
                      have hcz46_6 : w39.cell? ⟨gb429, 6, none⟩ = some (.int .i64 0) := (blk_cell BK429.out 6).trans rfl
                      have hfz46_0 := blk_frozen BK429.out 0
                      have hfz46_1 := blk_frozen BK429.out 1
                      have hfz46_2 := blk_frozen BK429.out 2
                      have hfz46_3 := blk_frozen BK429.out 3
                      have hfz46_4 := blk_frozen BK429.out 4
                      have hfz46_5 := blk_frozen BK429.out 5
                      have hfz46_6 := blk_frozen BK429.out 6
                      go_wp2
                      go_meet
                      case rel => exact ⟨_, (true), (by first | rfl | (simp; done) | (simp [*]; done)), H', ⟨by have := HJ4.out; have := HK2.out; first | omega | exact Nat.le_refl _⟩, ⟨by (with_reducible repeat (first | apply Kd.R_alloc | apply Kd.R_drewN | apply Kd.R_drew)); exact Kd.R_mono (Kd.R_far (p := ⟨gb429, 6, none⟩) (Kd.R_far (p := ⟨gb429, 5, none⟩) (Kd.R_far (p := ⟨gb429, 4, none⟩) (Kd.R_far (p := ⟨gb429, 3, none⟩) (Kd.R_far (p := ⟨gb429, 2, none⟩) (Kd.R_far (p := ⟨gb429, 1, none⟩) (Kd.R_far (p := ⟨gb429, 0, none⟩) (Kd.R_types HO424.out BK429.out (by decide)) (fun _ hk => hk.2) (.string t420)) (fun _ hk => hk.2) (.string t421)) (fun _ hk => hk.2) (.slice Ao41 t422.length co41)) (fun _ hk => hk.2) (.string t425)) (fun _ hk => hk.2) (.bool t426)) (fun _ hk => hk.2) (.int .i64 t427)) (fun _ hk => hk.2) (.int .i64 t428)) (fun _ hk => trivial)⟩, ⟨by (with_reducible repeat (first | refine blk_drewN ?_ _ | refine blk_drew ?_ | refine blk_alloc ?_ _)); refine blk_put (cs := #[.string t420, .string t421, .slice Ao41 t422.length co41, .string t425, .bool t426, .int .i64 t427, .int .i64 0]) ?_ 6 _ rfl; (with_reducible repeat (first | refine blk_drewN ?_ _ | refine blk_drew ?_ | refine blk_alloc ?_ _)); refine blk_put (cs := #[.string t420, .string t421, .slice Ao41 t422.length co41, .string t425, .bool t426, .int .i64 0, .int .i64 0]) ?_ 5 _ rfl; (with_reducible repeat (first | refine blk_drewN ?_ _ | refine blk_drew ?_ | refine blk_alloc ?_ _)); refine blk_put (cs := #[.string t420, .string t421, .slice Ao41 t422.length co41, .string t425, .bool false, .int .i64 0, .int .i64 0]) ?_ 4 _ rfl; (with_reducible repeat (first | refine blk_drewN ?_ _ | refine blk_drew ?_ | refine blk_alloc ?_ _)); refine blk_put (cs := #[.string t420, .string t421, .slice Ao41 t422.length co41, .string (⟨#[]⟩ : ByteArray), .bool false, .int .i64 0, .int .i64 0]) ?_ 3 _ rfl; (with_reducible repeat (first | refine blk_drewN ?_ _ | refine blk_drew ?_ | refine blk_alloc ?_ _)); refine blk_put (cs := #[.string t420, .string t421, .slice none 0 0, .string (⟨#[]⟩ : ByteArray), .bool false, .int .i64 0, .int .i64 0]) ?_ 2 _ rfl; (with_reducible repeat (first | refine blk_drewN ?_ _ | refine blk_drew ?_ | refine blk_alloc ?_ _)); refine blk_put (cs := #[.string t420, .string (⟨#[]⟩ : ByteArray), .slice none 0 0, .string (⟨#[]⟩ : ByteArray), .bool false, .int .i64 0, .int .i64 0]) ?_ 1 _ rfl; (with_reducible repeat (first | refine blk_drewN ?_ _ | refine blk_drew ?_ | refine blk_alloc ?_ _)); refine blk_put (cs := #[.string (⟨#[]⟩ : ByteArray), .string (⟨#[]⟩ : ByteArray), .slice none 0 0, .string (⟨#[]⟩ : ByteArray), .bool false, .int .i64 0, .int .i64 0]) ?_ 0 _ rfl; (with_reducible repeat (first | refine blk_drewN ?_ _ | refine blk_drew ?_ | refine blk_alloc ?_ _)); exact BK429.out⟩, ⟨by repeat (first | (with_reducible first | exact HB.out | apply below_alloc | apply pw_below_drewN | apply below_drew1 | refine below_set ?_ GE429.out) | exact HB.out)⟩⟩
                  · rw [if_neg c42] at H
                    have c42b0 : (t428 == 0) = false := beq_eq_false_iff_ne.mpr c42
                    have c42b1 : (t428 != 0) = true := bne_iff_ne.mpr c42
                    (first | rw [c42b0] | (simp only [i64_w, i32_w]; rw [c42b0]) | skip)
                    have H' := Aside0.mk H
                    clear H
                    have hcz47_0 : w39.cell? ⟨gb429, 0, none⟩ = some (.string (⟨#[]⟩ : ByteArray)) := (blk_cell BK429.out 0).trans rfl
                    have hcz47_1 : w39.cell? ⟨gb429, 1, none⟩ = some (.string (⟨#[]⟩ : ByteArray)) := (blk_cell BK429.out 1).trans rfl
                    have hcz47_2 : w39.cell? ⟨gb429, 2, none⟩ = some (.slice none 0 0) := (blk_cell BK429.out 2).trans rfl
                    have hcz47_3 : w39.cell? ⟨gb429, 3, none⟩ = some (.string (⟨#[]⟩ : ByteArray)) := (blk_cell BK429.out 3).trans rfl
                    have hcz47_4 : w39.cell? ⟨gb429, 4, none⟩ = some (.bool false) := (blk_cell BK429.out 4).trans rfl
                    have hcz47_5 : w39.cell? ⟨gb429, 5, none⟩ = some (.int .i64 0) := (blk_cell BK429.out 5).trans rfl
                    have hcz47_6 : w39.cell? ⟨gb429, 6, none⟩ = some (.int .i64 0) := (blk_cell BK429.out 6).trans rfl
                    have hfz47_0 := blk_frozen BK429.out 0
                    have hfz47_1 := blk_frozen BK429.out 1
                    have hfz47_2 := blk_frozen BK429.out 2
                    have hfz47_3 := blk_frozen BK429.out 3
                    have hfz47_4 := blk_frozen BK429.out 4
                    have hfz47_5 := blk_frozen BK429.out 5
                    have hfz47_6 := blk_frozen BK429.out 6
                    go_wp2
                    go_meet
                    case rel => exact ⟨_, (true), (by first | rfl | (simp; done) | (simp [*]; done)), H', ⟨by have := HJ4.out; have := HK2.out; first | omega | exact Nat.le_refl _⟩, ⟨by (with_reducible repeat (first | apply Kd.R_alloc | apply Kd.R_drewN | apply Kd.R_drew)); exact Kd.R_mono (Kd.R_far (p := ⟨gb429, 6, none⟩) (Kd.R_far (p := ⟨gb429, 5, none⟩) (Kd.R_far (p := ⟨gb429, 4, none⟩) (Kd.R_far (p := ⟨gb429, 3, none⟩) (Kd.R_far (p := ⟨gb429, 2, none⟩) (Kd.R_far (p := ⟨gb429, 1, none⟩) (Kd.R_far (p := ⟨gb429, 0, none⟩) (Kd.R_types HO424.out BK429.out (by decide)) (fun _ hk => hk.2) (.string t420)) (fun _ hk => hk.2) (.string t421)) (fun _ hk => hk.2) (.slice Ao41 t422.length co41)) (fun _ hk => hk.2) (.string t425)) (fun _ hk => hk.2) (.bool t426)) (fun _ hk => hk.2) (.int .i64 t427)) (fun _ hk => hk.2) (.int .i64 t428)) (fun _ hk => trivial)⟩, ⟨by (with_reducible repeat (first | refine blk_drewN ?_ _ | refine blk_drew ?_ | refine blk_alloc ?_ _)); refine blk_put (cs := #[.string t420, .string t421, .slice Ao41 t422.length co41, .string t425, .bool t426, .int .i64 t427, .int .i64 0]) ?_ 6 _ rfl; (with_reducible repeat (first | refine blk_drewN ?_ _ | refine blk_drew ?_ | refine blk_alloc ?_ _)); refine blk_put (cs := #[.string t420, .string t421, .slice Ao41 t422.length co41, .string t425, .bool t426, .int .i64 0, .int .i64 0]) ?_ 5 _ rfl; (with_reducible repeat (first | refine blk_drewN ?_ _ | refine blk_drew ?_ | refine blk_alloc ?_ _)); refine blk_put (cs := #[.string t420, .string t421, .slice Ao41 t422.length co41, .string t425, .bool false, .int .i64 0, .int .i64 0]) ?_ 4 _ rfl; (with_reducible repeat (first | refine blk_drewN ?_ _ | refine blk_drew ?_ | refine blk_alloc ?_ _)); refine blk_put (cs := #[.string t420, .string t421, .slice Ao41 t422.length co41, .string (⟨#[]⟩ : ByteArray), .bool false, .int .i64 0, .int .i64 0]) ?_ 3 _ rfl; (with_reducible repeat (first | refine blk_drewN ?_ _ | refine blk_drew ?_ | refine blk_alloc ?_ _)); refine blk_put (cs := #[.string t420, .string t421, .slice none 0 0, .string (⟨#[]⟩ : ByteArray), .bool false, .int .i64 0, .int .i64 0]) ?_ 2 _ rfl; (with_reducible repeat (first | refine blk_drewN ?_ _ | refine blk_drew ?_ | refine blk_alloc ?_ _)); refine blk_put (cs := #[.string t420, .string (⟨#[]⟩ : ByteArray), .slice none 0 0, .string (⟨#[]⟩ : ByteArray), .bool false, .int .i64 0, .int .i64 0]) ?_ 1 _ rfl; (with_reducible repeat (first | refine blk_drewN ?_ _ | refine blk_drew ?_ | refine blk_alloc ?_ _)); refine blk_put (cs := #[.string (⟨#[]⟩ : ByteArray), .string (⟨#[]⟩ : ByteArray), .slice none 0 0, .string (⟨#[]⟩ : ByteArray), .bool false, .int .i64 0, .int .i64 0]) ?_ 0 _ rfl; (with_reducible repeat (first | refine blk_drewN ?_ _ | refine blk_drew ?_ | refine blk_alloc ?_ _)); exact BK429.out⟩, ⟨by repeat (first | (with_reducible first | exact HB.out | apply below_alloc | apply pw_below_drewN | apply below_drew1 | refine below_set ?_ GE429.out) | exact HB.out)⟩⟩
                case rest =>
                  clear HC36
                  try clear c1
                  try clear c2
                  try clear p2
                  try clear c3
                  try clear c4
                  try clear p4
                  try clear q4
                  try clear hx4
                  try clear qi4
                  try clear p6
                  try clear c7
                  try clear c7b0
                  try clear c7b1
                  try clear c8
                  try clear c8b0
                  try clear c8b1
                  try clear c9
                  try clear c11
                  try clear c12
                  try clear c15
                  try clear c15b0
                  try clear c16
                  try clear c16b0
                  try clear c17
                  try clear c17b0
                  try clear c19
                  try clear c19b0
                  try clear c19b1
                  try clear c22
                  try clear c23
                  try clear c23b0
                  try clear c23b1
                  try clear c25
                  try clear c25b0
                  try clear c25b1
                  try clear c27
                  try clear c27b0
                  try clear c27b1
                  try clear c29
                  try clear c29b0
                  try clear c29b1
                  try clear c29b2
                  try clear c30
                  try clear c30b0
                  try clear c30b1
                  try clear c30b2
                  try clear c31
                  try clear p41
                  try clear q41
                  try clear hx41
                  try clear c42
                  try clear c42b0
                  try clear c42b1
                  try clear c43
                  try clear c43b0
                  try clear c43b1
                  try clear p43
                  try clear q43
                  try clear hx43
                  try clear qi43
                  try clear c44
                  try clear c44b0
                  try clear c44b1
                  try clear hcz40_0
                  try clear hcz40_1
                  try clear hcz40_2
                  try clear hcz40_3
                  try clear hcz40_4
                  try clear hcz40_5
                  try clear hcz40_6
                  try clear hcz45_0
                  try clear hcz45_1
                  try clear hcz45_2
                  try clear hcz45_3
                  try clear hcz45_4
                  try clear hcz45_5
                  try clear hcz45_6
                  try clear hcz46_0
                  try clear hcz46_1
                  try clear hcz46_2
                  try clear hcz46_3
                  try clear hcz46_4
                  try clear hcz46_5
                  try clear hcz46_6
                  try clear hcz47_0
                  try clear hcz47_1
                  try clear hcz47_2
                  try clear hcz47_3
                  try clear hcz47_4
                  try clear hcz47_5
                  try clear hcz47_6
                  try clear hfz40_0
                  try clear hfz40_1
                  try clear hfz40_2
                  try clear hfz40_3
                  try clear hfz40_4
                  try clear hfz40_5
                  try clear hfz40_6
                  try clear hfz45_0
                  try clear hfz45_1
                  try clear hfz45_2
                  try clear hfz45_3
                  try clear hfz45_4
                  try clear hfz45_5
                  try clear hfz45_6
                  try clear hfz46_0
                  try clear hfz46_1
                  try clear hfz46_2
                  try clear hfz46_3
                  try clear hfz46_4
                  try clear hfz46_5
                  try clear hfz46_6
                  try clear hfz47_0
                  try clear hfz47_1
                  try clear hfz47_2
                  try clear hfz47_3
                  try clear hfz47_4
                  try clear hfz47_5
                  try clear hfz47_6
                  try clear hx414_0
                  try clear hx430_0
                  try clear hx430_1
                  try clear p2
                  try clear p414
                  try clear p430
                  try clear q414
                  try clear q430
                  obtain ⟨kq, x88_35, rfl, HA, HJ35, HO_430002, BK429, HB⟩ := hcut
                  cases kq with
                  | zero => exact absurd HA.out (by simp [crossroadlaw02_HeadNames.j2])
                  | succ kj35 =>
                    have H := HA.out
                    clear HA
                    simp only [crossroadlaw02_HeadNames.j2] at H
                    by_cases c48 : x88_35 = true
                    · subst c48
                      have H1 : (some false) = some r := by rw [if_pos rfl] at H; exact H
                      clear H
                      have H := H1
                      clear H1
                      obtain rfl := Option.some.inj H
                      go_wp2
                      go_ret
                      exact ⟨by first | rfl | (simp [errW_none, errW_some] <;> rfl) | (simp [*, errW_none, errW_some] <;> rfl), by repeat (first | (with_reducible first | exact HB.out | apply below_alloc | apply pw_below_drewN | apply below_drew1 | refine below_set ?_ GE429.out) | exact HB.out)⟩
                    · replace c48 := Bool.eq_false_iff.mpr c48
                      subst c48
                      have H1 : (crossroadlaw02_HeadNames.l1 kj35 a1 l0 (l0.length : Int) 0 t420 t421 t422 t425 t426 t427 t428) = some r := by rw [if_neg (show ¬ (false = true) by decide)] at H; exact H
                      clear H
                      have H := H1
                      clear H1
                      have H' := Aside0.mk H
                      clear H
                      go_wp2
                      go_loopg [91] kj35 (fun kq v91 w' => ∃ (x91_4 : Int), v91 = .int .i64 x91_4 ∧ Aside0 (crossroadlaw02_HeadNames.l1 kq a1 l0 (l0.length : Int) x91_4 t420 t421 t422 t425 t426 t427 t428 = some r) ∧ Aside0 (kq ≤ kj35) ∧ Aside0 (Kd.R k27 27 w' w.heap.size (fun _ => True) (.slice Ao41 t422.length co41) t422) ∧ Aside0 (w'.heap[gb429]? = some (.cells #[.string t420, .string t421, (.slice Ao41 t422.length co41), .string t425, .bool t426, .int .i64 t427, .int .i64 t428] 32 (0, 0))) ∧ Aside0 (Below w.heap.size w w'))
                      case atStart => exact ⟨(0), (by first | rfl | (simp; done) | (simp [*]; done)), H', ⟨Nat.le_refl _⟩, ⟨by (with_reducible repeat (first | apply Kd.R_alloc | apply Kd.R_drewN | apply Kd.R_drew)); exact HO_430002.out⟩, ⟨by (with_reducible repeat (first | refine blk_drewN ?_ _ | refine blk_drew ?_ | refine blk_alloc ?_ _)); exact BK429.out⟩, ⟨by repeat (first | (with_reducible first | exact HB.out | apply below_alloc | apply pw_below_drewN | apply below_drew1 | refine below_set ?_ GE429.out) | exact HB.out)⟩⟩
                      case round =>
                        clear H'
                        try clear c1
                        try clear c2
                        try clear p2
                        try clear c3
                        try clear c4
                        try clear p4
                        try clear q4
                        try clear hx4
                        try clear qi4
                        try clear p6
                        try clear c7
                        try clear c7b0
                        try clear c7b1
                        try clear c8
                        try clear c8b0
                        try clear c8b1
                        try clear c9
                        try clear c11
                        try clear c12
                        try clear c15
                        try clear c15b0
                        try clear c16
                        try clear c16b0
                        try clear c17
                        try clear c17b0
                        try clear c19
                        try clear c19b0
                        try clear c19b1
                        try clear c22
                        try clear c23
                        try clear c23b0
                        try clear c23b1
                        try clear c25
                        try clear c25b0
                        try clear c25b1
                        try clear c27
                        try clear c27b0
                        try clear c27b1
                        try clear c29
                        try clear c29b0
                        try clear c29b1
                        try clear c29b2
                        try clear c30
                        try clear c30b0
                        try clear c30b1
                        try clear c30b2
                        try clear c31
                        try clear p41
                        try clear q41
                        try clear hx41
                        try clear c42
                        try clear c42b0
                        try clear c42b1
                        try clear c43
                        try clear c43b0
                        try clear c43b1
                        try clear p43
                        try clear q43
                        try clear hx43
                        try clear qi43
                        try clear c44
                        try clear c44b0
                        try clear c44b1
                        try clear c48
                        try clear hcz40_0
                        try clear hcz40_1
                        try clear hcz40_2
                        try clear hcz40_3
                        try clear hcz40_4
                        try clear hcz40_5
                        try clear hcz40_6
                        try clear hcz45_0
                        try clear hcz45_1
                        try clear hcz45_2
                        try clear hcz45_3
                        try clear hcz45_4
                        try clear hcz45_5
                        try clear hcz45_6
                        try clear hcz46_0
                        try clear hcz46_1
                        try clear hcz46_2
                        try clear hcz46_3
                        try clear hcz46_4
                        try clear hcz46_5
                        try clear hcz46_6
                        try clear hcz47_0
                        try clear hcz47_1
                        try clear hcz47_2
                        try clear hcz47_3
                        try clear hcz47_4
                        try clear hcz47_5
                        try clear hcz47_6
                        try clear hfz40_0
                        try clear hfz40_1
                        try clear hfz40_2
                        try clear hfz40_3
                        try clear hfz40_4
                        try clear hfz40_5
                        try clear hfz40_6
                        try clear hfz45_0
                        try clear hfz45_1
                        try clear hfz45_2
                        try clear hfz45_3
                        try clear hfz45_4
                        try clear hfz45_5
                        try clear hfz45_6
                        try clear hfz46_0
                        try clear hfz46_1
                        try clear hfz46_2
                        try clear hfz46_3
                        try clear hfz46_4
                        try clear hfz46_5
                        try clear hfz46_6
                        try clear hfz47_0
                        try clear hfz47_1
                        try clear hfz47_2
                        try clear hfz47_3
                        try clear hfz47_4
                        try clear hfz47_5
                        try clear hfz47_6
                        try clear hx414_0
                        try clear hx430_0
                        try clear hx430_1
                        try clear p2
                        try clear p4
                        try clear p41
                        try clear p414
                        try clear p43
                        try clear p430
                        try clear p6
                        try clear q4
                        try clear q41
                        try clear q414
                        try clear q43
                        try clear q430
                        obtain ⟨x91_4, rfl, HA, HK4, HO_430002, BK429, HB⟩ := hrel
                        cases gk with
                        | zero => exact absurd HA.out (by simp [crossroadlaw02_HeadNames.l1])
                        | succ k4 =>
                          have H := HA.out
                          clear HA
                          simp only [crossroadlaw02_HeadNames.l1] at H
                          by_cases c49 : x91_4 < (l0.length : Int)
                          · rw [if_pos c49] at H
                            have c49b0 : decide (x91_4 < (l0.length : Int)) = true := decide_eq_true c49
                            clear c49
                            by_cases c50 : 0 ≤ x91_4
                            · rw [if_pos c50] at H
                              have c50b0 : decide (0 ≤ x91_4) = true := decide_eq_true c50
                              clear c50
                              by_cases c51 : x91_4 < (l0.length : Int)
                              · rw [if_pos c51] at H
                                have c51b0 : decide (x91_4 < (l0.length : Int)) = true := decide_eq_true c51
                                clear c51
                                obtain ⟨ji52, hji52⟩ : ∃ j_ : Int, (wrap64 (x91_4 + 1)) = j_ := ⟨_, rfl⟩
                                replace H : (if 0 ≤ (ji52) then (if (ji52) < (t422.length : Int) then ((ascii_Lower.f (rdOf ByteArray.empty l0 x91_4)).bind fun t433 => ((ascii_Trim.f k4 a1).bind fun t434 => (if (!((((rd_T27 t422 (ji52)).f0).toList) == t433.toList) || (!((((rd_T27 t422 (ji52)).f1).toList) == t434.toList))) = true then (some false) else (crossroadlaw02_HeadNames.l1 k4 a1 l0 (l0.length : Int) ji52 t420 t421 t422 t425 t426 t427 t428)))) else (none)) else (none)) = some r := by first | (rw [hji52] at H; exact H) | (simp only [hji52] at H ⊢; exact H)
                                have hji52w : (IntKind.i64.wrap (x91_4 + 1)) = ji52 := (i64_w _).trans hji52
                                by_cases c53 : 0 ≤ (ji52)
                                · rw [if_pos c53] at H
                                  have c53b0 : decide (0 ≤ (ji52)) = true := decide_eq_true c53
                                  clear c53
                                  by_cases c54 : (ji52) < (t422.length : Int)
                                  · rw [if_pos c54] at H
                                    have c54b0 : decide ((ji52) < (t422.length : Int)) = true := decide_eq_true c54
                                    clear c54
                                    replace H := Option.bind_eq_some_iff.mp H
                                    obtain ⟨t433, A550, H⟩ := H
                                    replace H : ((ascii_Trim.f k4 a1).bind fun t434 => (if (!((((rd_T27 t422 (ji52)).f0).toList) == t433.toList) || (!((((rd_T27 t422 (ji52)).f1).toList) == t434.toList))) = true then (some false) else (crossroadlaw02_HeadNames.l1 k4 a1 l0 (l0.length : Int) ji52 t420 t421 t422 t425 t426 t427 t428))) = some r := H
                                    have A55 := Aside0.mk A550
                                    clear A550
                                    replace H := Option.bind_eq_some_iff.mp H
                                    obtain ⟨t434, A560, H⟩ := H
                                    replace H : (if (!((((rd_T27 t422 (ji52)).f0).toList) == t433.toList) || (!((((rd_T27 t422 (ji52)).f1).toList) == t434.toList))) = true then (some false) else (crossroadlaw02_HeadNames.l1 k4 a1 l0 (l0.length : Int) ji52 t420 t421 t422 t425 t426 t427 t428)) = some r := H
                                    have A56 := Aside0.mk A560
                                    clear A560
                                    by_cases c57 : (!((((rd_T27 t422 (ji52)).f0).toList) == t433.toList) || (!((((rd_T27 t422 (ji52)).f1).toList) == t434.toList))) = true
                                    · rw [if_pos c57] at H
                                      have c57b0 : (!((((rd_T27 t422 (ji52)).f0).toList) == t433.toList) || (!((((rd_T27 t422 (ji52)).f1).toList) == t434.toList))) = true := c57
                                      clear c57
                                      obtain rfl := Option.some.inj H
                                      have p431 : 0 ≤ (x91_4 : Int) := of_decide_eq_true (by first | (with_reducible assumption) | assumption)
                                      have q431 : x91_4 < (l0.length : Int) := of_decide_eq_true (by first | (with_reducible assumption) | assumption)
                                      obtain ⟨ad431, e431, hx431_0⟩ := Kd.at_string HR0.out x91_4 p431 q431
                                      cases e431
                                      replace hx431_0 := (HB.out.cell (World.block_lt_of_cell? w _ hx431_0)).trans hx431_0
                                      replace p431 := eq_true p431
                                      replace q431 := eq_true q431
                                      try go_wp2
                                      have n0_ := Aside0.mk (Kd.R_drew HO_430002.out)
                                      have n1_ := Aside0.mk (blk_drew BK429.out)
                                      have n2_ := Aside0.mk (below_drew1 HB.out)
                                      clear HO_430002
                                      clear BK429
                                      clear HB
                                      have HO_430002 := n0_
                                      have BK429 := n1_
                                      have HB := n2_
                                      clear n0_ n1_ n2_
                                      have p432 : 0 ≤ ((ji52) : Int) := of_decide_eq_true (by first | (with_reducible assumption) | assumption)
                                      have q432 : (ji52) < (t422.length : Int) := of_decide_eq_true (by first | (with_reducible assumption) | assumption)
                                      obtain ⟨ad432, e432, hx432_0, hx432_1⟩ := at_T27 (Kd.R_reads' HO_430002.out).2.2 (ji52) p432 q432
                                      cases e432
                                      replace p432 := eq_true p432
                                      replace q432 := eq_true q432
                                      refine start_ (n := 13) (S := fun w' => w'.cell? ⟨gb429, 0, none⟩ = some (.string t420) ∧ w'.cell? ⟨gb429, 1, none⟩ = some (.string t421) ∧ w'.cell? ⟨gb429, 2, none⟩ = some (.slice (some ad432) t422.length co41) ∧ w'.cell? ⟨gb429, 3, none⟩ = some (.string t425) ∧ w'.cell? ⟨gb429, 4, none⟩ = some (.bool t426) ∧ w'.cell? ⟨gb429, 5, none⟩ = some (.int .i64 t427) ∧ w'.cell? ⟨gb429, 6, none⟩ = some (.int .i64 t428) ∧ w'.cell? (ad432.add (((ji52)).toNat * 2)) = some (.string ((rd_T27 t422 (ji52)).f0)) ∧ w'.cell? ⟨(ad432.add (((ji52)).toNat * 2)).block, (ad432.add (((ji52)).toNat * 2)).off + 1, none⟩ = some (.string ((rd_T27 t422 (ji52)).f1))) (ds := []) #[false, false, false, false, false, false, false, false, false, false, false, false, false] (by kernel_rfl) rfl rfl ⟨(blk_cell BK429.out 0).trans rfl, (blk_cell BK429.out 1).trans rfl, (blk_cell BK429.out 2).trans rfl, (blk_cell BK429.out 3).trans rfl, (blk_cell BK429.out 4).trans rfl, (blk_cell BK429.out 5).trans rfl, (blk_cell BK429.out 6).trans rfl, hx432_0, hx432_1⟩ (fun hHeld => ?_); refine with_tabW crossroadlaw02_HeadNames.tab20 crossroadlaw02_HeadNames.bits20 (fun HT_ HW_ => ?_)
                                      generalize wr.drew = w58 at HO_430002 BK429 HB hx432_0 hx432_1 hHeld ⊢
                                      refine pure_ (i := 0) (N := some 96) (v := ?_) (a' := ?_) #[true, false, false, false, false, false, false, false, false, false, false, false, false] rfl rfl (any_of HT_.out (by kernel_rfl)) (fun _ _ _ h => h) (Or.inl ⟨by rfl, ?_⟩) ?_ ?_
                                      rotate_left
                                      · intro w'
                                        go_simp
                                        with_reducible rfl
                                      rotate_left
                                      · simp only [Act.put, List.setIfInBounds_toArray, List.set_cons_zero, List.set_cons_succ, i64_w, i32_w]
                                        rfl
                                      refine pure_ (i := 1) (N := some 97) (v := ?_) (a' := ?_) #[true, true, false, false, false, false, false, false, false, false, false, false, false] rfl rfl (any_of HT_.out (by kernel_rfl)) (fun _ _ _ h => h) (Or.inl ⟨by rfl, ?_⟩) ?_ ?_
                                      rotate_left
                                      · intro w'
                                        go_simp
                                        with_reducible rfl
                                      rotate_left
                                      · simp only [Act.put, List.setIfInBounds_toArray, List.set_cons_zero, List.set_cons_succ, i64_w, i32_w]
                                        rfl
                                      refine pure_ (i := 3) (N := some 99) (v := ?_) (a' := ?_) #[true, true, false, true, false, false, false, false, false, false, false, false, false] rfl rfl (any_of HT_.out (by kernel_rfl)) (fun _ _ _ h => h) (Or.inl ⟨by rfl, ?_⟩) ?_ ?_
                                      rotate_left
                                      · intro w'
                                        go_simp
                                        with_reducible rfl
                                      rotate_left
                                      · simp only [Act.put, List.setIfInBounds_toArray, List.set_cons_zero, List.set_cons_succ, i64_w, i32_w]
                                        rfl
                                      refine pure_ (i := 4) (N := some 100) (v := ?_) (a' := ?_) #[true, true, false, true, true, false, false, false, false, false, false, false, false] rfl rfl (any_of HT_.out (by kernel_rfl)) (fun _ _ _ h => h) (Or.inl ⟨by rfl, ?_⟩) ?_ ?_
                                      rotate_left
                                      · intro w'
                                        go_simp
                                        with_reducible rfl
                                      rotate_left
                                      · simp only [Act.put, List.setIfInBounds_toArray, List.set_cons_zero, List.set_cons_succ, i64_w, i32_w]
                                        rfl
                                      refine pure_ (i := 7) (N := some 103) (v := ?_) (a' := ?_) #[true, true, false, true, true, false, false, true, false, false, false, false, false] rfl rfl (any_of HT_.out (by kernel_rfl)) (fun _ _ _ h => h) (Or.inl ⟨by rfl, ?_⟩) ?_ ?_
                                      rotate_left
                                      · intro w'
                                        go_simp
                                        with_reducible rfl
                                      rotate_left
                                      · simp only [Act.put, List.setIfInBounds_toArray, List.set_cons_zero, List.set_cons_succ, i64_w, i32_w]
                                        rfl
                                      refine pure_ (i := 9) (N := some 105) (v := ?_) (a' := ?_) #[true, true, false, true, true, false, false, true, false, true, false, false, false] rfl rfl (any_of HT_.out (by kernel_rfl)) (fun _ _ _ h => h) (Or.inl ⟨by rfl, ?_⟩) ?_ ?_
                                      rotate_left
                                      · intro w'
                                        go_simp
                                        with_reducible rfl
                                      rotate_left
                                      · simp only [Act.put, List.setIfInBounds_toArray, List.set_cons_zero, List.set_cons_succ, i64_w, i32_w]
                                        rfl
                                      refine take_ (i := 2) (N := some 98) (v := ?_) (a' := ?_) #[true, true, true, true, true, false, false, true, false, true, false, false, false] rfl rfl (take_ofW HT_.out HW_.out (by kernel_rfl)) (fun _ _ _ h => h) (Or.inl ⟨by rfl, ?_⟩) hHeld ?_ ?_
                                      rotate_left
                                      · rintro w' ⟨s0, s1, s2, s3, s4, s5, s6, s7, s8⟩
                                        go_simp
                                        with_reducible rfl
                                      rotate_left
                                      · simp only [Act.put, List.setIfInBounds_toArray, List.set_cons_zero, List.set_cons_succ, i64_w, i32_w]
                                        rfl
                                      refine pure_ (i := 5) (N := some 101) (v := ?_) (a' := ?_) #[true, true, true, true, true, true, false, true, false, true, false, false, false] rfl rfl (any_of HT_.out (by kernel_rfl)) (fun _ _ _ h => h) (Or.inl ⟨by rfl, ?_⟩) ?_ ?_
                                      rotate_left
                                      · intro w'
                                        go_simp
                                        with_reducible rfl
                                      rotate_left
                                      · simp only [Act.put, List.setIfInBounds_toArray, List.set_cons_zero, List.set_cons_succ, i64_w, i32_w]
                                        rfl
                                      refine take_ (i := 6) (N := some 102) (v := ?_) (a' := ?_) #[true, true, true, true, true, true, true, true, false, true, false, false, false] rfl rfl (take_ofW HT_.out HW_.out (by kernel_rfl)) (fun _ _ _ h => h) (Or.inl ⟨by rfl, ?_⟩) hHeld ?_ ?_
                                      rotate_left
                                      · rintro w' ⟨s0, s1, s2, s3, s4, s5, s6, s7, s8⟩
                                        go_simp
                                        with_reducible rfl
                                      rotate_left
                                      · simp only [Act.put, List.setIfInBounds_toArray, List.set_cons_zero, List.set_cons_succ, i64_w, i32_w]
                                        rfl
                                      refine one_ (i := 8) (N := some 104) #[true, true, true, true, true, true, true, true, true, true, false, false, false] rfl rfl (one_of HT_.out (by kernel_rfl)) (by decide) (fun K hK => ?_)
                                      refine goes_ Try.func16 (by kernel_rfl) rfl #[.string (rdOf ByteArray.empty l0 x91_4)] (by rfl) rfl rfl (by (try simp only [List.map_toArray, List.map_cons, List.map_nil]); first | done | rfl | (simp only [List.length_drop, List.length_take]; rfl)) ?_
                                      with_reducible refine (ascii_Lower.calls (rdOf ByteArray.empty l0 x91_4) t433 _ A55.out).mono ?_
                                      rintro e w59 ⟨rfl, hb⟩
                                      have HS7_ := (hb.cell (World.block_lt_of_cell? _ _ (hHeld.2.2.2.2.2.2.2.1))).trans (hHeld.2.2.2.2.2.2.2.1)
                                      have HS8_ := (hb.cell (World.block_lt_of_cell? _ _ (hHeld.2.2.2.2.2.2.2.2))).trans (hHeld.2.2.2.2.2.2.2.2)
                                      refine ⟨_, rfl, ?_⟩
                                      have n0_ := Aside0.mk (Kd.R_below (by (with_reducible repeat (first | apply Kd.R_alloc | apply Kd.R_drewN | apply Kd.R_drew)); exact HO_430002.out) hb)
                                      have n1_ := Aside0.mk (blk_below (g := gb429) (o := .cells #[.string t420, .string t421, .slice (some ad432) t422.length co41, .string t425, .bool t426, .int .i64 t427, .int .i64 t428] 32 (0, 0)) (by (with_reducible repeat (first | refine blk_drewN ?_ _ | refine blk_drew ?_ | refine blk_alloc ?_ _)); exact BK429.out) hb)
                                      have n2_ := Aside0.mk (below_step (by repeat (first | (with_reducible first | exact HB.out | apply below_alloc | apply pw_below_drewN | apply below_drew1 | refine below_set ?_ GE429.out) | exact HB.out)) hb)
                                      clear HO_430002
                                      clear BK429
                                      clear HB
                                      have HO_430002 := n0_
                                      have BK429 := n1_
                                      have HB := n2_
                                      clear n0_ n1_ n2_
                                      (try clear hb)
                                      (try clear hb2)
                                      (try clear hk)
                                      (try clear hi)
                                      refine hK.out _ _ ⟨(blk_cell BK429.out 0).trans rfl, (blk_cell BK429.out 1).trans rfl, (blk_cell BK429.out 2).trans rfl, (blk_cell BK429.out 3).trans rfl, (blk_cell BK429.out 4).trans rfl, (blk_cell BK429.out 5).trans rfl, (blk_cell BK429.out 6).trans rfl, HS7_, HS8_⟩ (fun hHeld => ?_)
                                      clear hK K
                                      refine norm_ (a' := ?_) ?_ ?_
                                      rotate_left
                                      · show Act.put _ (some 104) _ = _
                                        simp only [Act.put, List.setIfInBounds_toArray, List.set_cons_zero, List.set_cons_succ, i64_w, i32_w]
                                        rfl
                                      refine one_ (i := 10) (N := some 106) #[true, true, true, true, true, true, true, true, true, true, true, false, false] rfl rfl (one_of HT_.out (by kernel_rfl)) (by decide) (fun K hK => ?_)
                                      refine goes_ Try.func14 (by kernel_rfl) rfl #[.string a1] (by rfl) rfl rfl (by (try simp only [List.map_toArray, List.map_cons, List.map_nil]); first | done | rfl | (simp only [List.length_drop, List.length_take]; rfl)) ?_
                                      with_reducible refine (ascii_Trim.calls k4 a1 t434 _ A56.out).mono ?_
                                      rintro e w' ⟨rfl, ⟨nd, rfl⟩⟩
                                      refine ⟨_, rfl, ?_⟩
                                      refine hK.out _ _ ⟨(blk_cell BK429.out 0).trans rfl, (blk_cell BK429.out 1).trans rfl, (blk_cell BK429.out 2).trans rfl, (blk_cell BK429.out 3).trans rfl, (blk_cell BK429.out 4).trans rfl, (blk_cell BK429.out 5).trans rfl, (blk_cell BK429.out 6).trans rfl, hHeld.2.2.2.2.2.2.2.1, hHeld.2.2.2.2.2.2.2.2⟩ (fun hHeld => ?_)
                                      clear hK K
                                      refine norm_ (a' := ?_) ?_ ?_
                                      rotate_left
                                      · show Act.put _ (some 106) _ = _
                                        simp only [Act.put, List.setIfInBounds_toArray, List.set_cons_zero, List.set_cons_succ, i64_w, i32_w]
                                        rfl
                                      refine pure_ (i := 11) (N := some 107) (v := ?_) (a' := ?_) #[true, true, true, true, true, true, true, true, true, true, true, true, false] rfl rfl (any_of HT_.out (by kernel_rfl)) (fun _ _ _ h => h) (Or.inl ⟨by rfl, ?_⟩) ?_ ?_
                                      rotate_left
                                      · intro w'
                                        go_simp
                                        with_reducible rfl
                                      rotate_left
                                      · simp only [Act.put, List.setIfInBounds_toArray, List.set_cons_zero, List.set_cons_succ, i64_w, i32_w]
                                        rfl
                                      refine pure_ (i := 12) (N := some 108) (v := ?_) (a' := ?_) #[true, true, true, true, true, true, true, true, true, true, true, true, true] rfl rfl (any_of HT_.out (by kernel_rfl)) (fun _ _ _ h => h) (Or.inl ⟨by rfl, ?_⟩) ?_ ?_
                                      rotate_left
                                      · intro w'
                                        go_simp
                                        with_reducible rfl
                                      rotate_left
                                      · simp only [Act.put, List.setIfInBounds_toArray, List.set_cons_zero, List.set_cons_succ, i64_w, i32_w]
                                        rfl
                                      refine done_ (done_of HT_.out (by kernel_rfl)) ?_
                                      try go_wp2
                                      go_ret
                                      exact ⟨by first | rfl | (simp [errW_none, errW_some] <;> rfl) | (simp only [← hji52]; first | rfl | (simp [errW_none, errW_some] <;> rfl)) | (simp [*, errW_none, errW_some] <;> rfl), by repeat (first | (with_reducible first | exact HB.out | apply below_alloc | apply pw_below_drewN | apply below_drew1 | refine below_set ?_ GE429.out) | exact HB.out)⟩
                                    · rw [if_neg c57] at H
                                      have c57b0 : (!((((rd_T27 t422 (ji52)).f0).toList) == t433.toList) || (!((((rd_T27 t422 (ji52)).f1).toList) == t434.toList))) = false := by simpa using c57
                                      clear c57
                                      have H' := Aside0.mk H
                                      clear H
                                      have p431 : 0 ≤ (x91_4 : Int) := of_decide_eq_true (by first | (with_reducible assumption) | assumption)
                                      have q431 : x91_4 < (l0.length : Int) := of_decide_eq_true (by first | (with_reducible assumption) | assumption)
                                      obtain ⟨ad431, e431, hx431_0⟩ := Kd.at_string HR0.out x91_4 p431 q431
                                      cases e431
                                      replace hx431_0 := (HB.out.cell (World.block_lt_of_cell? w _ hx431_0)).trans hx431_0
                                      replace p431 := eq_true p431
                                      replace q431 := eq_true q431
                                      try go_wp2
                                      have n0_ := Aside0.mk (Kd.R_drew HO_430002.out)
                                      have n1_ := Aside0.mk (blk_drew BK429.out)
                                      have n2_ := Aside0.mk (below_drew1 HB.out)
                                      clear HO_430002
                                      clear BK429
                                      clear HB
                                      have HO_430002 := n0_
                                      have BK429 := n1_
                                      have HB := n2_
                                      clear n0_ n1_ n2_
                                      have p432 : 0 ≤ ((ji52) : Int) := of_decide_eq_true (by first | (with_reducible assumption) | assumption)
                                      have q432 : (ji52) < (t422.length : Int) := of_decide_eq_true (by first | (with_reducible assumption) | assumption)
                                      obtain ⟨ad432, e432, hx432_0, hx432_1⟩ := at_T27 (Kd.R_reads' HO_430002.out).2.2 (ji52) p432 q432
                                      cases e432
                                      replace p432 := eq_true p432
                                      replace q432 := eq_true q432
                                      refine start_ (n := 13) (S := fun w' => w'.cell? ⟨gb429, 0, none⟩ = some (.string t420) ∧ w'.cell? ⟨gb429, 1, none⟩ = some (.string t421) ∧ w'.cell? ⟨gb429, 2, none⟩ = some (.slice (some ad432) t422.length co41) ∧ w'.cell? ⟨gb429, 3, none⟩ = some (.string t425) ∧ w'.cell? ⟨gb429, 4, none⟩ = some (.bool t426) ∧ w'.cell? ⟨gb429, 5, none⟩ = some (.int .i64 t427) ∧ w'.cell? ⟨gb429, 6, none⟩ = some (.int .i64 t428) ∧ w'.cell? (ad432.add (((ji52)).toNat * 2)) = some (.string ((rd_T27 t422 (ji52)).f0)) ∧ w'.cell? ⟨(ad432.add (((ji52)).toNat * 2)).block, (ad432.add (((ji52)).toNat * 2)).off + 1, none⟩ = some (.string ((rd_T27 t422 (ji52)).f1))) (ds := []) #[false, false, false, false, false, false, false, false, false, false, false, false, false] (by kernel_rfl) rfl rfl ⟨(blk_cell BK429.out 0).trans rfl, (blk_cell BK429.out 1).trans rfl, (blk_cell BK429.out 2).trans rfl, (blk_cell BK429.out 3).trans rfl, (blk_cell BK429.out 4).trans rfl, (blk_cell BK429.out 5).trans rfl, (blk_cell BK429.out 6).trans rfl, hx432_0, hx432_1⟩ (fun hHeld => ?_); refine with_tabW crossroadlaw02_HeadNames.tab20 crossroadlaw02_HeadNames.bits20 (fun HT_ HW_ => ?_)
                                      generalize wr.drew = w60 at HO_430002 BK429 HB hx432_0 hx432_1 hHeld ⊢
                                      refine pure_ (i := 0) (N := some 96) (v := ?_) (a' := ?_) #[true, false, false, false, false, false, false, false, false, false, false, false, false] rfl rfl (any_of HT_.out (by kernel_rfl)) (fun _ _ _ h => h) (Or.inl ⟨by rfl, ?_⟩) ?_ ?_
                                      rotate_left
                                      · intro w'
                                        go_simp
                                        with_reducible rfl
                                      rotate_left
                                      · simp only [Act.put, List.setIfInBounds_toArray, List.set_cons_zero, List.set_cons_succ, i64_w, i32_w]
                                        rfl
                                      refine pure_ (i := 1) (N := some 97) (v := ?_) (a' := ?_) #[true, true, false, false, false, false, false, false, false, false, false, false, false] rfl rfl (any_of HT_.out (by kernel_rfl)) (fun _ _ _ h => h) (Or.inl ⟨by rfl, ?_⟩) ?_ ?_
                                      rotate_left
                                      · intro w'
                                        go_simp
                                        with_reducible rfl
                                      rotate_left
                                      · simp only [Act.put, List.setIfInBounds_toArray, List.set_cons_zero, List.set_cons_succ, i64_w, i32_w]
                                        rfl
                                      refine pure_ (i := 3) (N := some 99) (v := ?_) (a' := ?_) #[true, true, false, true, false, false, false, false, false, false, false, false, false] rfl rfl (any_of HT_.out (by kernel_rfl)) (fun _ _ _ h => h) (Or.inl ⟨by rfl, ?_⟩) ?_ ?_
                                      rotate_left
                                      · intro w'
                                        go_simp
                                        with_reducible rfl
                                      rotate_left
                                      · simp only [Act.put, List.setIfInBounds_toArray, List.set_cons_zero, List.set_cons_succ, i64_w, i32_w]
                                        rfl
                                      refine pure_ (i := 4) (N := some 100) (v := ?_) (a' := ?_) #[true, true, false, true, true, false, false, false, false, false, false, false, false] rfl rfl (any_of HT_.out (by kernel_rfl)) (fun _ _ _ h => h) (Or.inl ⟨by rfl, ?_⟩) ?_ ?_
                                      rotate_left
                                      · intro w'
                                        go_simp
                                        with_reducible rfl
                                      rotate_left
                                      · simp only [Act.put, List.setIfInBounds_toArray, List.set_cons_zero, List.set_cons_succ, i64_w, i32_w]
                                        rfl
                                      refine pure_ (i := 7) (N := some 103) (v := ?_) (a' := ?_) #[true, true, false, true, true, false, false, true, false, false, false, false, false] rfl rfl (any_of HT_.out (by kernel_rfl)) (fun _ _ _ h => h) (Or.inl ⟨by rfl, ?_⟩) ?_ ?_
                                      rotate_left
                                      · intro w'
                                        go_simp
                                        with_reducible rfl
                                      rotate_left
                                      · simp only [Act.put, List.setIfInBounds_toArray, List.set_cons_zero, List.set_cons_succ, i64_w, i32_w]
                                        rfl
                                      refine pure_ (i := 9) (N := some 105) (v := ?_) (a' := ?_) #[true, true, false, true, true, false, false, true, false, true, false, false, false] rfl rfl (any_of HT_.out (by kernel_rfl)) (fun _ _ _ h => h) (Or.inl ⟨by rfl, ?_⟩) ?_ ?_
                                      rotate_left
                                      · intro w'
                                        go_simp
                                        with_reducible rfl
                                      rotate_left
                                      · simp only [Act.put, List.setIfInBounds_toArray, List.set_cons_zero, List.set_cons_succ, i64_w, i32_w]
                                        rfl
                                      refine take_ (i := 2) (N := some 98) (v := ?_) (a' := ?_) #[true, true, true, true, true, false, false, true, false, true, false, false, false] rfl rfl (take_ofW HT_.out HW_.out (by kernel_rfl)) (fun _ _ _ h => h) (Or.inl ⟨by rfl, ?_⟩) hHeld ?_ ?_
                                      rotate_left
                                      · rintro w' ⟨s0, s1, s2, s3, s4, s5, s6, s7, s8⟩
                                        go_simp
                                        with_reducible rfl
                                      rotate_left
                                      · simp only [Act.put, List.setIfInBounds_toArray, List.set_cons_zero, List.set_cons_succ, i64_w, i32_w]
                                        rfl
                                      refine pure_ (i := 5) (N := some 101) (v := ?_) (a' := ?_) #[true, true, true, true, true, true, false, true, false, true, false, false, false] rfl rfl (any_of HT_.out (by kernel_rfl)) (fun _ _ _ h => h) (Or.inl ⟨by rfl, ?_⟩) ?_ ?_
                                      rotate_left
                                      · intro w'
                                        go_simp
                                        with_reducible rfl
                                      rotate_left
                                      · simp only [Act.put, List.setIfInBounds_toArray, List.set_cons_zero, List.set_cons_succ, i64_w, i32_w]
                                        rfl
                                      refine take_ (i := 6) (N := some 102) (v := ?_) (a' := ?_) #[true, true, true, true, true, true, true, true, false, true, false, false, false] rfl rfl (take_ofW HT_.out HW_.out (by kernel_rfl)) (fun _ _ _ h => h) (Or.inl ⟨by rfl, ?_⟩) hHeld ?_ ?_
                                      rotate_left
                                      · rintro w' ⟨s0, s1, s2, s3, s4, s5, s6, s7, s8⟩
                                        go_simp
                                        with_reducible rfl
                                      rotate_left
                                      · simp only [Act.put, List.setIfInBounds_toArray, List.set_cons_zero, List.set_cons_succ, i64_w, i32_w]
                                        rfl
                                      refine one_ (i := 8) (N := some 104) #[true, true, true, true, true, true, true, true, true, true, false, false, false] rfl rfl (one_of HT_.out (by kernel_rfl)) (by decide) (fun K hK => ?_)
                                      refine goes_ Try.func16 (by kernel_rfl) rfl #[.string (rdOf ByteArray.empty l0 x91_4)] (by rfl) rfl rfl (by (try simp only [List.map_toArray, List.map_cons, List.map_nil]); first | done | rfl | (simp only [List.length_drop, List.length_take]; rfl)) ?_
                                      with_reducible refine (ascii_Lower.calls (rdOf ByteArray.empty l0 x91_4) t433 _ A55.out).mono ?_
                                      rintro e w61 ⟨rfl, hb⟩
                                      have HS7_ := (hb.cell (World.block_lt_of_cell? _ _ (hHeld.2.2.2.2.2.2.2.1))).trans (hHeld.2.2.2.2.2.2.2.1)
                                      have HS8_ := (hb.cell (World.block_lt_of_cell? _ _ (hHeld.2.2.2.2.2.2.2.2))).trans (hHeld.2.2.2.2.2.2.2.2)
                                      refine ⟨_, rfl, ?_⟩
                                      have n0_ := Aside0.mk (Kd.R_below (by (with_reducible repeat (first | apply Kd.R_alloc | apply Kd.R_drewN | apply Kd.R_drew)); exact HO_430002.out) hb)
                                      have n1_ := Aside0.mk (blk_below (g := gb429) (o := .cells #[.string t420, .string t421, .slice (some ad432) t422.length co41, .string t425, .bool t426, .int .i64 t427, .int .i64 t428] 32 (0, 0)) (by (with_reducible repeat (first | refine blk_drewN ?_ _ | refine blk_drew ?_ | refine blk_alloc ?_ _)); exact BK429.out) hb)
                                      have n2_ := Aside0.mk (below_step (by repeat (first | (with_reducible first | exact HB.out | apply below_alloc | apply pw_below_drewN | apply below_drew1 | refine below_set ?_ GE429.out) | exact HB.out)) hb)
                                      clear HO_430002
                                      clear BK429
                                      clear HB
                                      have HO_430002 := n0_
                                      have BK429 := n1_
                                      have HB := n2_
                                      clear n0_ n1_ n2_
                                      (try clear hb)
                                      (try clear hb2)
                                      (try clear hk)
                                      (try clear hi)
                                      refine hK.out _ _ ⟨(blk_cell BK429.out 0).trans rfl, (blk_cell BK429.out 1).trans rfl, (blk_cell BK429.out 2).trans rfl, (blk_cell BK429.out 3).trans rfl, (blk_cell BK429.out 4).trans rfl, (blk_cell BK429.out 5).trans rfl, (blk_cell BK429.out 6).trans rfl, HS7_, HS8_⟩ (fun hHeld => ?_)
                                      clear hK K
                                      refine norm_ (a' := ?_) ?_ ?_
                                      rotate_left
                                      · show Act.put _ (some 104) _ = _
                                        simp only [Act.put, List.setIfInBounds_toArray, List.set_cons_zero, List.set_cons_succ, i64_w, i32_w]
                                        rfl
                                      refine one_ (i := 10) (N := some 106) #[true, true, true, true, true, true, true, true, true, true, true, false, false] rfl rfl (one_of HT_.out (by kernel_rfl)) (by decide) (fun K hK => ?_)
                                      refine goes_ Try.func14 (by kernel_rfl) rfl #[.string a1] (by rfl) rfl rfl (by (try simp only [List.map_toArray, List.map_cons, List.map_nil]); first | done | rfl | (simp only [List.length_drop, List.length_take]; rfl)) ?_
                                      with_reducible refine (ascii_Trim.calls k4 a1 t434 _ A56.out).mono ?_
                                      rintro e w' ⟨rfl, ⟨nd, rfl⟩⟩
                                      refine ⟨_, rfl, ?_⟩
                                      refine hK.out _ _ ⟨(blk_cell BK429.out 0).trans rfl, (blk_cell BK429.out 1).trans rfl, (blk_cell BK429.out 2).trans rfl, (blk_cell BK429.out 3).trans rfl, (blk_cell BK429.out 4).trans rfl, (blk_cell BK429.out 5).trans rfl, (blk_cell BK429.out 6).trans rfl, hHeld.2.2.2.2.2.2.2.1, hHeld.2.2.2.2.2.2.2.2⟩ (fun hHeld => ?_)
                                      clear hK K
                                      refine norm_ (a' := ?_) ?_ ?_
                                      rotate_left
                                      · show Act.put _ (some 106) _ = _
                                        simp only [Act.put, List.setIfInBounds_toArray, List.set_cons_zero, List.set_cons_succ, i64_w, i32_w]
                                        rfl
                                      refine pure_ (i := 11) (N := some 107) (v := ?_) (a' := ?_) #[true, true, true, true, true, true, true, true, true, true, true, true, false] rfl rfl (any_of HT_.out (by kernel_rfl)) (fun _ _ _ h => h) (Or.inl ⟨by rfl, ?_⟩) ?_ ?_
                                      rotate_left
                                      · intro w'
                                        go_simp
                                        with_reducible rfl
                                      rotate_left
                                      · simp only [Act.put, List.setIfInBounds_toArray, List.set_cons_zero, List.set_cons_succ, i64_w, i32_w]
                                        rfl
                                      refine pure_ (i := 12) (N := some 108) (v := ?_) (a' := ?_) #[true, true, true, true, true, true, true, true, true, true, true, true, true] rfl rfl (any_of HT_.out (by kernel_rfl)) (fun _ _ _ h => h) (Or.inl ⟨by rfl, ?_⟩) ?_ ?_
                                      rotate_left
                                      · intro w'
                                        go_simp
                                        with_reducible rfl
                                      rotate_left
                                      · simp only [Act.put, List.setIfInBounds_toArray, List.set_cons_zero, List.set_cons_succ, i64_w, i32_w]
                                        rfl
                                      refine done_ (done_of HT_.out (by kernel_rfl)) ?_
                                      try go_wp2
                                      go_roundg k4
                                      case measure => have := HJ4.out; have := HK2.out; have := HJ35.out; have := HK4.out; omega
                                      case rel => exact ⟨(ji52), (by first | rfl | (simp; done) | (simp only [← hji52] <;> (first | rfl | simp)) | (simp [*]; done)), H', ⟨by have := HJ4.out; have := HK2.out; have := HJ35.out; have := HK4.out; omega⟩, ⟨by (with_reducible repeat (first | apply Kd.R_alloc | apply Kd.R_drewN | apply Kd.R_drew)); exact HO_430002.out⟩, ⟨by (with_reducible repeat (first | refine blk_drewN ?_ _ | refine blk_drew ?_ | refine blk_alloc ?_ _)); exact BK429.out⟩, ⟨by repeat (first | (with_reducible first | exact HB.out | apply below_alloc | apply pw_below_drewN | apply below_drew1 | refine below_set ?_ GE429.out) | exact HB.out)⟩⟩
                                  · rw [if_neg c54] at H
                                    exact absurd H (by simp)
                                · rw [if_neg c53] at H
                                  exact absurd H (by simp)
                              · rw [if_neg c51] at H
                                exact absurd H (by simp)
                            · rw [if_neg c50] at H
                              exact absurd H (by simp)
                          · rw [if_neg c49] at H
                            have c49b0 : decide (x91_4 < (l0.length : Int)) = false := decide_eq_false c49
                            clear c49
                            obtain rfl := Option.some.inj H
                            go_wp2
                            go_ret
                            exact ⟨by first | rfl | (simp [errW_none, errW_some] <;> rfl) | (simp [*, errW_none, errW_some] <;> rfl), by repeat (first | (with_reducible first | exact HB.out | apply below_alloc | apply pw_below_drewN | apply below_drew1 | refine below_set ?_ GE429.out) | exact HB.out)⟩
  · replace c4 := Bool.eq_false_iff.mpr c4
    subst c4
    have H1 : (some false) = some r := by rw [if_neg (show ¬ (false = true) by decide)] at H; exact H
    clear H
    have H := H1
    clear H1
    obtain rfl := Option.some.inj H
    go_enter Try.func8, Try.ntmps8
    go_wp2_with (first | ((with_reducible refine gate_callee (f := 9) rfl ?_); refine goesL_ (some 12) rfl rfl Try.func9 (by kernel_rfl) rfl #[] rfl (by (try simp only [List.map_toArray, List.map_cons, List.map_nil]); first | done | rfl | (simp only [List.length_drop, List.length_take]; rfl)) ?_; (with_reducible refine (crossroadlaw02_fit.calls k  false _ A3.out).mono ?_); rintro e w62 ⟨rfl, hb⟩; refine ⟨_, rfl, ?_⟩; have n0_ := Aside0.mk (below_step (by repeat (first | (with_reducible first | exact HB.out | apply below_alloc | apply pw_below_drewN | apply below_drew1) | exact HB.out)) hb); clear HB; have HB := n0_; clear n0_; (try clear hb); (try clear hb2); (try clear hk); (try clear hi)))
    go_ret
    exact ⟨by first | rfl | (simp [errW_none, errW_some] <;> rfl) | (simp [*, errW_none, errW_some] <;> rfl), by repeat (first | (with_reducible first | exact HB.out | apply below_alloc | apply pw_below_drewN | apply below_drew1) | exact HB.out)⟩

end Go.Proofs.Ytaafeojjcfognaa.X

-- Written for this claim by a program of this session (wip/xprint.py). Not trusted: Lean checks it.
import Derived.Test.YtnafapefbcmmbaaX0
import Derived.Test.YtnafapefbcmmbaaX5
import Derived.Test.YtnafapefbcmmbaaX12
import Derived.Test.YtnafapefbcmmbaaX13
namespace Go.Proofs.Ytnafapefbcmmbaa.X
open Go.RowKit Go.Proofs.YtnafapefbcmmbaaW.PrintWords Go.Proofs.YtnafapefbcmmbaaW.PrintLast Go.Proofs.YtnafapefbcmmbaaW.PrintMore
attribute [local go_sem] max2_int min2_int max_two min_two max_three min_three max_four min_four   -- for this text's walks alone
set_option linter.unusedVariables false
set_option linter.unusedSimpArgs false

/-! ### crossroadlaw06_PathBack: function 3 -/
mutual
def crossroadlaw06_PathBack.j0 : Nat → List ByteArray → ByteArray → Bool → Bool → Option (Bool)
  | 0, _, _, _, _ => none
  | k + 1, x0, x1, x2, x29 => if x29 = true then (some true) else (crossroadlaw06_PathBack.l0 k x0 x1 x2 (⟨#[]⟩ : ByteArray) x0 (x0.length : Int) 0)
def crossroadlaw06_PathBack.l0 : Nat → List ByteArray → ByteArray → Bool → ByteArray → List ByteArray → Int → Int → Option (Bool)
  | 0, _, _, _, _, _, _, _ => none
  | k + 1, x0, x1, x2, x7, x30, x31, x32 => if x32 < x31 then (if 0 ≤ x32 then (if x32 < (x30.length : Int) then (if ((rdOf ByteArray.empty x30 x32).size : Int) > 60 then (some true) else (if x7.size + 1 ≤ 9223372036854775807 then (crossroadlaw06_PathBack.l1 k x0 x1 x2 (x7 ++ (⟨#[47]⟩ : ByteArray)) (rdOf ByteArray.empty x30 x32) x30 x31 x32 ((rdOf ByteArray.empty x30 x32).size : Int) 0) else (none))) else (none)) else (none)) else (if x7.toList = ([47] : List UInt8) then (some true) else (if x7.size + 1 ≤ 9223372036854775807 then (if (x7 ++ (⟨#[63]⟩ : ByteArray)).size + x1.size ≤ 9223372036854775807 then ((path_Split.f k ((x7 ++ (⟨#[63]⟩ : ByteArray)) ++ x1)).bind fun bt161 => (if (x0.length : Int) > 8 then (if bt161.2 = true then (some false) else (some ((bt161.1.length : Int) == 0))) else (if bt161.2 = true then (crossroadlaw06_PathBack.j3 k x0 bt161.1 ((bt161.1.length : Int) != (x0.length : Int))) else (crossroadlaw06_PathBack.j3 k x0 bt161.1 true)))) else (none)) else (none)))
def crossroadlaw06_PathBack.l1 : Nat → List ByteArray → ByteArray → Bool → ByteArray → ByteArray → List ByteArray → Int → Int → Int → Int → Option (Bool)
  | 0, _, _, _, _, _, _, _, _, _, _ => none
  | k + 1, x0, x1, x2, x7, x9, x30, x31, x32, x42, x43 => if x43 < x42 then (if 0 ≤ x43 then (if x43 < (x9.size : Int) then (if x2 = true then ((crossroadlaw06_hex.f (bt x9 x43)).bind fun t157 => (if x7.size + t157.size ≤ 9223372036854775807 then (crossroadlaw06_PathBack.l1 k x0 x1 x2 (x7 ++ t157) x9 x30 x31 x32 x42 (wrap64 (x43 + 1))) else (none))) else (if (bt x9 x43) = 47 then ((crossroadlaw06_hex.f (bt x9 x43)).bind fun t158 => (if x7.size + t158.size ≤ 9223372036854775807 then (crossroadlaw06_PathBack.l1 k x0 x1 x2 (x7 ++ t158) x9 x30 x31 x32 x42 (wrap64 (x43 + 1))) else (none))) else (if (bt x9 x43) = 63 then ((crossroadlaw06_hex.f (bt x9 x43)).bind fun t159 => (if x7.size + t159.size ≤ 9223372036854775807 then (crossroadlaw06_PathBack.l1 k x0 x1 x2 (x7 ++ t159) x9 x30 x31 x32 x42 (wrap64 (x43 + 1))) else (none))) else (if (bt x9 x43) = 37 then ((crossroadlaw06_hex.f (bt x9 x43)).bind fun t160 => (if x7.size + t160.size ≤ 9223372036854775807 then (crossroadlaw06_PathBack.l1 k x0 x1 x2 (x7 ++ t160) x9 x30 x31 x32 x42 (wrap64 (x43 + 1))) else (none))) else (if x43 ≤ (wrap64 (x43 + 1)) then (if (wrap64 (x43 + 1)) ≤ (x9.size : Int) then (if x7.size + (x9.extract (x43 : Int).toNat ((wrap64 (x43 + 1)) : Int).toNat).size ≤ 9223372036854775807 then (crossroadlaw06_PathBack.l1 k x0 x1 x2 (x7 ++ (x9.extract (x43 : Int).toNat ((wrap64 (x43 + 1)) : Int).toNat)) x9 x30 x31 x32 x42 (wrap64 (x43 + 1))) else (none)) else (none)) else (none)))))) else (none)) else (none)) else (crossroadlaw06_PathBack.l0 k x0 x1 x2 x7 x30 x31 (wrap64 (x32 + 1)))
def crossroadlaw06_PathBack.j3 : Nat → List ByteArray → List ByteArray → Bool → Option (Bool)
  | 0, _, _, _ => none
  | k + 1, x0, x12, x103 => if x103 = true then (some false) else (crossroadlaw06_PathBack.l2 k x0 x12 (x0.length : Int) 0)
def crossroadlaw06_PathBack.l2 : Nat → List ByteArray → List ByteArray → Int → Int → Option (Bool)
  | 0, _, _, _, _ => none
  | k + 1, x0, x12, x105, x106 => if x106 < x105 then (if 0 ≤ x106 then (if x106 < (x12.length : Int) then (if x106 < (x0.length : Int) then (if (rdOf ByteArray.empty x12 x106).toList = (rdOf ByteArray.empty x0 x106).toList then (crossroadlaw06_PathBack.l2 k x0 x12 x105 (wrap64 (x106 + 1))) else (some false)) else (none)) else (none)) else (none)) else (some true)
end
def crossroadlaw06_PathBack.f (k : Nat) (l0 : List ByteArray) (a1 : ByteArray) (a2 : Bool) : Option (Bool) := (crossroadlaw06_fit.f k).bind fun t154 => (if t154 = true then (if (l0.length : Int) = 0 then (crossroadlaw06_PathBack.j0 k l0 a1 a2 true) else (if (l0.length : Int) > 12 then (crossroadlaw06_PathBack.j0 k l0 a1 a2 true) else ((crossroadlaw06_light.f a1).bind fun t155 => (crossroadlaw06_PathBack.j0 k l0 a1 a2 (!t155))))) else (some false))
theorem crossroadlaw06_PathBack.mono_l : ∀ k, (∀ y0 y1 y2 y3, LeO (crossroadlaw06_PathBack.j0 k y0 y1 y2 y3) (crossroadlaw06_PathBack.j0 (k + 1) y0 y1 y2 y3)) ∧ (∀ y0 y1 y2 y3 y4 y5 y6, LeO (crossroadlaw06_PathBack.l0 k y0 y1 y2 y3 y4 y5 y6) (crossroadlaw06_PathBack.l0 (k + 1) y0 y1 y2 y3 y4 y5 y6)) ∧ (∀ y0 y1 y2 y3 y4 y5 y6 y7 y8 y9, LeO (crossroadlaw06_PathBack.l1 k y0 y1 y2 y3 y4 y5 y6 y7 y8 y9) (crossroadlaw06_PathBack.l1 (k + 1) y0 y1 y2 y3 y4 y5 y6 y7 y8 y9)) ∧ (∀ y0 y1 y2, LeO (crossroadlaw06_PathBack.j3 k y0 y1 y2) (crossroadlaw06_PathBack.j3 (k + 1) y0 y1 y2)) ∧ (∀ y0 y1 y2 y3, LeO (crossroadlaw06_PathBack.l2 k y0 y1 y2 y3) (crossroadlaw06_PathBack.l2 (k + 1) y0 y1 y2 y3))
  | 0 => ⟨fun _ _ _ _ r h => by simp [crossroadlaw06_PathBack.j0] at h, fun _ _ _ _ _ _ _ r h => by simp [crossroadlaw06_PathBack.l0] at h, fun _ _ _ _ _ _ _ _ _ _ r h => by simp [crossroadlaw06_PathBack.l1] at h, fun _ _ _ r h => by simp [crossroadlaw06_PathBack.j3] at h, fun _ _ _ _ r h => by simp [crossroadlaw06_PathBack.l2] at h⟩
  | k + 1 => by
    obtain ⟨ih0, ih1, ih2, ih3, ih4⟩ := crossroadlaw06_PathBack.mono_l k
    refine ⟨?_, ?_, ?_, ?_, ?_⟩
    · intro y0 y1 y2 y3
      unfold crossroadlaw06_PathBack.j0
      repeat' first
      | (with_reducible exact ih0 _ _ _ _)
      | (with_reducible exact ih1 _ _ _ _ _ _ _)
      | (with_reducible exact ih2 _ _ _ _ _ _ _ _ _ _)
      | (with_reducible exact ih3 _ _ _)
      | (with_reducible exact ih4 _ _ _ _)
      | (with_reducible exact crossroadlaw06_fit.mono _)
      | (with_reducible exact path_Split.mono _ _)
      | (with_reducible exact LeO.refl _)
      | (with_reducible exact LeO.none _)
      | (with_reducible refine LeO.ite ?_ ?_)
      | (with_reducible refine LeO.bind ?_ (fun _ => ?_))
      | exact ih0 _ _ _ _
      | exact ih1 _ _ _ _ _ _ _
      | exact ih2 _ _ _ _ _ _ _ _ _ _
      | exact ih3 _ _ _
      | exact ih4 _ _ _ _
      | exact crossroadlaw06_fit.mono _
      | exact path_Split.mono _ _
      | exact LeO.none _
      | refine LeO.ite ?_ ?_
      | refine LeO.bind ?_ (fun _ => ?_)
    · intro y0 y1 y2 y3 y4 y5 y6
      unfold crossroadlaw06_PathBack.l0
      repeat' first
      | (with_reducible exact ih0 _ _ _ _)
      | (with_reducible exact ih1 _ _ _ _ _ _ _)
      | (with_reducible exact ih2 _ _ _ _ _ _ _ _ _ _)
      | (with_reducible exact ih3 _ _ _)
      | (with_reducible exact ih4 _ _ _ _)
      | (with_reducible exact crossroadlaw06_fit.mono _)
      | (with_reducible exact path_Split.mono _ _)
      | (with_reducible exact LeO.refl _)
      | (with_reducible exact LeO.none _)
      | (with_reducible refine LeO.ite ?_ ?_)
      | (with_reducible refine LeO.bind ?_ (fun _ => ?_))
      | exact ih0 _ _ _ _
      | exact ih1 _ _ _ _ _ _ _
      | exact ih2 _ _ _ _ _ _ _ _ _ _
      | exact ih3 _ _ _
      | exact ih4 _ _ _ _
      | exact crossroadlaw06_fit.mono _
      | exact path_Split.mono _ _
      | exact LeO.none _
      | refine LeO.ite ?_ ?_
      | refine LeO.bind ?_ (fun _ => ?_)
    · intro y0 y1 y2 y3 y4 y5 y6 y7 y8 y9
      unfold crossroadlaw06_PathBack.l1
      repeat' first
      | (with_reducible exact ih0 _ _ _ _)
      | (with_reducible exact ih1 _ _ _ _ _ _ _)
      | (with_reducible exact ih2 _ _ _ _ _ _ _ _ _ _)
      | (with_reducible exact ih3 _ _ _)
      | (with_reducible exact ih4 _ _ _ _)
      | (with_reducible exact crossroadlaw06_fit.mono _)
      | (with_reducible exact path_Split.mono _ _)
      | (with_reducible exact LeO.refl _)
      | (with_reducible exact LeO.none _)
      | (with_reducible refine LeO.ite ?_ ?_)
      | (with_reducible refine LeO.bind ?_ (fun _ => ?_))
      | exact ih0 _ _ _ _
      | exact ih1 _ _ _ _ _ _ _
      | exact ih2 _ _ _ _ _ _ _ _ _ _
      | exact ih3 _ _ _
      | exact ih4 _ _ _ _
      | exact crossroadlaw06_fit.mono _
      | exact path_Split.mono _ _
      | exact LeO.none _
      | refine LeO.ite ?_ ?_
      | refine LeO.bind ?_ (fun _ => ?_)
    · intro y0 y1 y2
      unfold crossroadlaw06_PathBack.j3
      repeat' first
      | (with_reducible exact ih0 _ _ _ _)
      | (with_reducible exact ih1 _ _ _ _ _ _ _)
      | (with_reducible exact ih2 _ _ _ _ _ _ _ _ _ _)
      | (with_reducible exact ih3 _ _ _)
      | (with_reducible exact ih4 _ _ _ _)
      | (with_reducible exact crossroadlaw06_fit.mono _)
      | (with_reducible exact path_Split.mono _ _)
      | (with_reducible exact LeO.refl _)
      | (with_reducible exact LeO.none _)
      | (with_reducible refine LeO.ite ?_ ?_)
      | (with_reducible refine LeO.bind ?_ (fun _ => ?_))
      | exact ih0 _ _ _ _
      | exact ih1 _ _ _ _ _ _ _
      | exact ih2 _ _ _ _ _ _ _ _ _ _
      | exact ih3 _ _ _
      | exact ih4 _ _ _ _
      | exact crossroadlaw06_fit.mono _
      | exact path_Split.mono _ _
      | exact LeO.none _
      | refine LeO.ite ?_ ?_
      | refine LeO.bind ?_ (fun _ => ?_)
    · intro y0 y1 y2 y3
      unfold crossroadlaw06_PathBack.l2
      repeat' first
      | (with_reducible exact ih0 _ _ _ _)
      | (with_reducible exact ih1 _ _ _ _ _ _ _)
      | (with_reducible exact ih2 _ _ _ _ _ _ _ _ _ _)
      | (with_reducible exact ih3 _ _ _)
      | (with_reducible exact ih4 _ _ _ _)
      | (with_reducible exact crossroadlaw06_fit.mono _)
      | (with_reducible exact path_Split.mono _ _)
      | (with_reducible exact LeO.refl _)
      | (with_reducible exact LeO.none _)
      | (with_reducible refine LeO.ite ?_ ?_)
      | (with_reducible refine LeO.bind ?_ (fun _ => ?_))
      | exact ih0 _ _ _ _
      | exact ih1 _ _ _ _ _ _ _
      | exact ih2 _ _ _ _ _ _ _ _ _ _
      | exact ih3 _ _ _
      | exact ih4 _ _ _ _
      | exact crossroadlaw06_fit.mono _
      | exact path_Split.mono _ _
      | exact LeO.none _
      | refine LeO.ite ?_ ?_
      | refine LeO.bind ?_ (fun _ => ?_)
theorem crossroadlaw06_PathBack.mono : ∀ a0 a1 a2 k, LeO (crossroadlaw06_PathBack.f k a0 a1 a2) (crossroadlaw06_PathBack.f (k + 1) a0 a1 a2) := by
  intro a0 a1 a2 k
  obtain ⟨ih0, ih1, ih2, ih3, ih4⟩ := crossroadlaw06_PathBack.mono_l k
  unfold crossroadlaw06_PathBack.f
  repeat' first
      | (with_reducible exact ih0 _ _ _ _)
      | (with_reducible exact ih1 _ _ _ _ _ _ _)
      | (with_reducible exact ih2 _ _ _ _ _ _ _ _ _ _)
      | (with_reducible exact ih3 _ _ _)
      | (with_reducible exact ih4 _ _ _ _)
      | (with_reducible exact crossroadlaw06_fit.mono _)
      | (with_reducible exact path_Split.mono _ _)
      | (with_reducible exact LeO.refl _)
      | (with_reducible exact LeO.none _)
      | (with_reducible refine LeO.ite ?_ ?_)
      | (with_reducible refine LeO.bind ?_ (fun _ => ?_))
      | exact ih0 _ _ _ _
      | exact ih1 _ _ _ _ _ _ _
      | exact ih2 _ _ _ _ _ _ _ _ _ _
      | exact ih3 _ _ _
      | exact ih4 _ _ _ _
      | exact crossroadlaw06_fit.mono _
      | exact path_Split.mono _ _
      | exact LeO.none _
      | refine LeO.ite ?_ ?_
      | refine LeO.bind ?_ (fun _ => ?_)
set_option maxHeartbeats 8000000 in
set_option maxRecDepth 100000 in
theorem crossroadlaw06_PathBack.calls (k : Nat) (A0 : Option Addr) (c0 : Nat) (l0 : List ByteArray) (a1 : ByteArray) (a2 : Bool) (r : Bool) (w : World) (hr0 : Kd.C Kd.string w A0 l0.length l0) (hc0 : l0.length ≤ c0) (h : crossroadlaw06_PathBack.f k l0 a1 a2 = some r) :
    Calls Try.prog 3 #[.slice A0 l0.length c0, .string a1, .bool a2] w fun e w' => e = .returned (.bool r) ∧ Below w.heap.size w w' := by
  have HR0 := Aside0.mk hr0
  have HC0 := Aside0.mk hc0
  clear hr0 hc0
  have HB := Aside0.mk (Below.refl w.heap.size w)
  have H : ((crossroadlaw06_fit.f k).bind fun t154 => (if t154 = true then (if (l0.length : Int) = 0 then (crossroadlaw06_PathBack.j0 k l0 a1 a2 true) else (if (l0.length : Int) > 12 then (crossroadlaw06_PathBack.j0 k l0 a1 a2 true) else ((crossroadlaw06_light.f a1).bind fun t155 => (crossroadlaw06_PathBack.j0 k l0 a1 a2 (!t155))))) else (some false))) = some r := h
  clear h
  replace H := Option.bind_eq_some_iff.mp H
  obtain ⟨t154, A40, H⟩ := H
  replace H : (if t154 = true then (if (l0.length : Int) = 0 then (crossroadlaw06_PathBack.j0 k l0 a1 a2 true) else (if (l0.length : Int) > 12 then (crossroadlaw06_PathBack.j0 k l0 a1 a2 true) else ((crossroadlaw06_light.f a1).bind fun t155 => (crossroadlaw06_PathBack.j0 k l0 a1 a2 (!t155))))) else (some false)) = some r := H
  have A4 := Aside0.mk A40
  clear A40
  by_cases c5 : t154 = true
  · subst c5
    have H1 : (if (l0.length : Int) = 0 then (crossroadlaw06_PathBack.j0 k l0 a1 a2 true) else (if (l0.length : Int) > 12 then (crossroadlaw06_PathBack.j0 k l0 a1 a2 true) else ((crossroadlaw06_light.f a1).bind fun t155 => (crossroadlaw06_PathBack.j0 k l0 a1 a2 (!t155))))) = some r := by rw [if_pos rfl] at H; exact H
    clear H
    have H := H1
    clear H1
    have HC6 := Aside0.mk H
    clear H
    go_enter Try.func3, Try.ntmps3
    go_upto_region 3 with (first | (go_at_call 9; (with_reducible refine (crossroadlaw06_fit.calls k  true _ A4.out).mono ?_); rintro e w7 ⟨rfl, hb⟩; have n0_ := Aside0.mk (below_step (by repeat (first | (with_reducible first | exact HB.out | apply below_alloc | apply pw_below_drewN | apply below_drew1) | exact HB.out)) hb); clear HB; have HB := n0_; clear n0_; (try clear hb); (try clear hb2); (try clear hk); (try clear hi)))
    repeat (go_quiet (first | (go_at_call 9; (with_reducible refine (crossroadlaw06_fit.calls k  true _ A4.out).mono ?_); rintro e w7 ⟨rfl, hb⟩; have n0_ := Aside0.mk (below_step (by repeat (first | (with_reducible first | exact HB.out | apply below_alloc | apply pw_below_drewN | apply below_drew1) | exact HB.out)) hb); clear HB; have HB := n0_; clear n0_; (try clear hb); (try clear hb2); (try clear hk); (try clear hi))); go_upto_region 3 with (first | (go_at_call 9; (with_reducible refine (crossroadlaw06_fit.calls k  true _ A4.out).mono ?_); rintro e w7 ⟨rfl, hb⟩; have n0_ := Aside0.mk (below_step (by repeat (first | (with_reducible first | exact HB.out | apply below_alloc | apply pw_below_drewN | apply below_drew1) | exact HB.out)) hb); clear HB; have HB := n0_; clear n0_; (try clear hb); (try clear hb2); (try clear hk); (try clear hi))))
    (try simp only [Act.put, List.setIfInBounds_toArray, List.set_cons_zero, List.set_cons_succ])
    go_cut [29] (fun v29 wc => ∃ (kq : Nat) (x29_5 : Bool), v29 = .bool x29_5 ∧ Aside0 (crossroadlaw06_PathBack.j0 kq l0 a1 a2 x29_5 = some r) ∧ Aside0 (kq ≤ k) ∧ Aside0 (Below w.heap.size w wc))
    case first =>
      have H := HC6.out
      clear HC6
      by_cases c8 : (l0.length : Int) = 0
      · rw [if_pos c8] at H
        have c8b0 : ((l0.length : Int) == 0) = true := beq_iff_eq.mpr c8
        have c8b1 : ((l0.length : Int) != 0) = false := bne_eq_false_iff_eq.mpr c8
        clear c8
        (first | rw [c8b0] | (simp only [i64_w, i32_w]; rw [c8b0]) | skip)
        have H' := Aside0.mk H
        clear H
        go_wp2
        repeat (go_quiet (fail); try go_wp2)
        go_meet
        case rel => exact ⟨_, (true), (by first | rfl | (simp; done) | (simp [*]; done)), H', ⟨by first | omega | exact Nat.le_refl _⟩, ⟨by repeat (first | (with_reducible first | exact HB.out | apply below_alloc | apply pw_below_drewN | apply below_drew1) | exact HB.out)⟩⟩
      · rw [if_neg c8] at H
        have c8b0 : ((l0.length : Int) == 0) = false := beq_eq_false_iff_ne.mpr c8
        have c8b1 : ((l0.length : Int) != 0) = true := bne_iff_ne.mpr c8
        have c8b2 : ¬ (l0 = []) := fun h_ => c8 (by rw [h_]; rfl)
        (first | rw [c8b0] | (simp only [i64_w, i32_w]; rw [c8b0]) | skip)
        by_cases c9 : (l0.length : Int) > 12
        · rw [if_pos c9] at H
          have c9b0 : decide (12 < (l0.length : Int)) = true := decide_eq_true c9
          have c9b1 : decide (12 < l0.length) = true := decide_eq_true (by omega)
          clear c9
          have H' := Aside0.mk H
          clear H
          go_wp2
          repeat (go_quiet (fail); try go_wp2)
          go_meet
          case rel => exact ⟨_, (true), (by first | rfl | (simp; done) | (simp [*]; done)), H', ⟨by first | omega | exact Nat.le_refl _⟩, ⟨by repeat (first | (with_reducible first | exact HB.out | apply below_alloc | apply pw_below_drewN | apply below_drew1) | exact HB.out)⟩⟩
        · rw [if_neg c9] at H
          have c9b0 : decide (12 < (l0.length : Int)) = false := decide_eq_false c9
          have c9b1 : decide (12 < l0.length) = false := decide_eq_false (by omega)
          clear c9
          replace H := Option.bind_eq_some_iff.mp H
          obtain ⟨t155, A100, H⟩ := H
          replace H : (crossroadlaw06_PathBack.j0 k l0 a1 a2 (!t155)) = some r := H
          have A10 := Aside0.mk A100
          clear A100
          have H' := Aside0.mk H
          clear H
          go_wp2_with (first | (go_at_call 10; (with_reducible refine (crossroadlaw06_light.calls a1 t155 _ A10.out).mono ?_); rintro e w' ⟨rfl, ⟨nd, rfl⟩⟩; (try first | exact ⟨rfl, _, World.drewN_drewN _ _ _⟩ | exact ⟨rfl, _, Eq.trans (World.drewN_drewN _ _ _) (congrArg (World.drewN _) (Nat.add_assoc _ _ _))⟩)))
          repeat (go_quiet (first | (go_at_call 10; (with_reducible refine (crossroadlaw06_light.calls a1 t155 _ A10.out).mono ?_); rintro e w' ⟨rfl, ⟨nd, rfl⟩⟩; (try first | exact ⟨rfl, _, World.drewN_drewN _ _ _⟩ | exact ⟨rfl, _, Eq.trans (World.drewN_drewN _ _ _) (congrArg (World.drewN _) (Nat.add_assoc _ _ _))⟩))); try go_wp2_with (first | (go_at_call 10; (with_reducible refine (crossroadlaw06_light.calls a1 t155 _ A10.out).mono ?_); rintro e w' ⟨rfl, ⟨nd, rfl⟩⟩; (try first | exact ⟨rfl, _, World.drewN_drewN _ _ _⟩ | exact ⟨rfl, _, Eq.trans (World.drewN_drewN _ _ _) (congrArg (World.drewN _) (Nat.add_assoc _ _ _))⟩))))
          go_meet
          case rel => exact ⟨_, (!t155), (by first | rfl | (simp; done) | (simp [*]; done)), H', ⟨by first | omega | exact Nat.le_refl _⟩, ⟨by repeat (first | (with_reducible first | exact HB.out | apply below_alloc | apply pw_below_drewN | apply below_drew1) | exact HB.out)⟩⟩
    case rest =>
      clear HC6
      try clear p2
      try clear c3
      try clear c5
      try clear c8
      try clear c8b0
      try clear c8b1
      try clear c8b2
      try clear c9
      try clear c9b0
      try clear c9b1
      obtain ⟨kq, x29_5, rfl, HA, HJ5, HB⟩ := hcut
      cases kq with
      | zero => exact absurd HA.out (by simp [crossroadlaw06_PathBack.j0])
      | succ kj5 =>
        have H := HA.out
        clear HA
        simp only [crossroadlaw06_PathBack.j0] at H
        by_cases c11 : x29_5 = true
        · subst c11
          have H1 : (some true) = some r := by rw [if_pos rfl] at H; exact H
          clear H
          have H := H1
          clear H1
          obtain rfl := Option.some.inj H
          go_wp2
          repeat (go_quiet (fail); try go_wp2)
          go_ret
          exact ⟨by first | rfl | (simp [errW_none, errW_some] <;> rfl) | (simp [*, errW_none, errW_some] <;> rfl), by repeat (first | (with_reducible first | exact HB.out | apply below_alloc | apply pw_below_drewN | apply below_drew1) | exact HB.out)⟩
        · replace c11 := Bool.eq_false_iff.mpr c11
          subst c11
          have H1 : (crossroadlaw06_PathBack.l0 kj5 l0 a1 a2 (⟨#[]⟩ : ByteArray) l0 (l0.length : Int) 0) = some r := by rw [if_neg (show ¬ (false = true) by decide)] at H; exact H
          clear H
          have H := H1
          clear H1
          have H' := Aside0.mk H
          clear H
          go_wp2
          repeat (go_quiet (fail); try go_wp2)
          go_loopg [7, 32] kj5 (fun kq v7 v32 w' => ∃ (x7_2 : ByteArray) (x32_2 : Int), v7 = .string x7_2 ∧ v32 = .int .i64 x32_2 ∧ Aside0 (crossroadlaw06_PathBack.l0 kq l0 a1 a2 x7_2 l0 (l0.length : Int) x32_2 = some r) ∧ Aside0 (kq ≤ kj5) ∧ Aside0 (Below w.heap.size w w'))
          case atStart => exact ⟨((⟨#[]⟩ : ByteArray)), (0), (by first | rfl | (simp; done) | (simp [*]; done)), (by first | rfl | (simp; done) | (simp [*]; done)), H', ⟨Nat.le_refl _⟩, ⟨by repeat (first | (with_reducible first | exact HB.out | apply below_alloc | apply pw_below_drewN | apply below_drew1) | exact HB.out)⟩⟩
          case round =>
            clear H'
            try clear c1
            try clear p2
            try clear c3
            try clear c5
            try clear c8
            try clear c8b0
            try clear c8b1
            try clear c8b2
            try clear c9
            try clear c9b0
            try clear c9b1
            try clear c11
            try clear p2
            obtain ⟨x7_2, x32_2, rfl, rfl, HA, HK2, HB⟩ := hrel
            cases gk with
            | zero => exact absurd HA.out (by simp [crossroadlaw06_PathBack.l0])
            | succ k2 =>
              have H := HA.out
              clear HA
              simp only [crossroadlaw06_PathBack.l0] at H
              by_cases c12 : x32_2 < (l0.length : Int)
              · rw [if_pos c12] at H
                have c12b0 : decide (x32_2 < (l0.length : Int)) = true := decide_eq_true c12
                clear c12
                by_cases c13 : 0 ≤ x32_2
                · rw [if_pos c13] at H
                  have c13b0 : decide (0 ≤ x32_2) = true := decide_eq_true c13
                  clear c13
                  by_cases c14 : x32_2 < (l0.length : Int)
                  · rw [if_pos c14] at H
                    have c14b0 : decide (x32_2 < (l0.length : Int)) = true := decide_eq_true c14
                    clear c14
                    by_cases c15 : ((rdOf ByteArray.empty l0 x32_2).size : Int) > 60
                    · rw [if_pos c15] at H
                      have c15b0 : decide (60 < ((rdOf ByteArray.empty l0 x32_2).size : Int)) = true := decide_eq_true c15
                      have c15b1 : decide (60 < (rdOf ByteArray.empty l0 x32_2).size) = true := decide_eq_true (by omega)
                      clear c15
                      obtain rfl := Option.some.inj H
                      have p156 : 0 ≤ (x32_2 : Int) := of_decide_eq_true (by first | (with_reducible assumption) | assumption)
                      have q156 : x32_2 < (l0.length : Int) := of_decide_eq_true (by first | (with_reducible assumption) | assumption)
                      obtain ⟨ad156, e156, hx156_0⟩ := Kd.at_string HR0.out x32_2 p156 q156
                      cases e156
                      replace hx156_0 := (HB.out.cell (World.block_lt_of_cell? w _ hx156_0)).trans hx156_0
                      replace p156 := eq_true p156
                      replace q156 := eq_true q156
                      go_wp2
                      repeat (go_quiet (fail); try go_wp2)
                      go_ret
                      exact ⟨by first | rfl | (simp [errW_none, errW_some] <;> rfl) | (simp [*, errW_none, errW_some] <;> rfl), by repeat (first | (with_reducible first | exact HB.out | apply below_alloc | apply pw_below_drewN | apply below_drew1) | exact HB.out)⟩
                    · rw [if_neg c15] at H
                      have c15b0 : decide (60 < ((rdOf ByteArray.empty l0 x32_2).size : Int)) = false := decide_eq_false c15
                      have c15b1 : decide (60 < (rdOf ByteArray.empty l0 x32_2).size) = false := decide_eq_false (by omega)
                      clear c15
                      by_cases c16 : x7_2.size + 1 ≤ 9223372036854775807
                      · rw [if_pos c16] at H
                        have c16b0 := eq_true c16
                        have c16b1 : decide (x7_2.size + 1 ≤ 9223372036854775807) = true := decide_eq_true c16
                        try have c16b2 : (9223372036854775807 < x7_2.size + 1) = False := eq_false (Nat.not_lt.2 c16)
                        have H' := Aside0.mk H
                        clear H
                        have p156 : 0 ≤ (x32_2 : Int) := of_decide_eq_true (by first | (with_reducible assumption) | assumption)
                        have q156 : x32_2 < (l0.length : Int) := of_decide_eq_true (by first | (with_reducible assumption) | assumption)
                        obtain ⟨ad156, e156, hx156_0⟩ := Kd.at_string HR0.out x32_2 p156 q156
                        cases e156
                        replace hx156_0 := (HB.out.cell (World.block_lt_of_cell? w _ hx156_0)).trans hx156_0
                        replace p156 := eq_true p156
                        replace q156 := eq_true q156
                        go_wp2
                        repeat (go_quiet (fail); try go_wp2)
                        go_loopg [7, 43] k2 (fun kq v7 v43 w' => ∃ (x7_3 : ByteArray) (x43_3 : Int), v7 = .string x7_3 ∧ v43 = .int .i64 x43_3 ∧ Aside0 (crossroadlaw06_PathBack.l1 kq l0 a1 a2 x7_3 (rdOf ByteArray.empty l0 x32_2) l0 (l0.length : Int) x32_2 ((rdOf ByteArray.empty l0 x32_2).size : Int) x43_3 = some r) ∧ Aside0 (kq ≤ k2) ∧ Aside0 (Below w.heap.size w w'))
                        case atStart => exact ⟨(x7_2 ++ (⟨#[47]⟩ : ByteArray)), (0), (by first | rfl | (simp; done) | (simp [*]; done)), (by first | rfl | (simp; done) | (simp [*]; done)), H', ⟨Nat.le_refl _⟩, ⟨by repeat (first | (with_reducible first | exact HB.out | apply below_alloc | apply pw_below_drewN | apply below_drew1) | exact HB.out)⟩⟩
                        case round =>
                          clear H'
                          try clear c1
                          try clear p1
                          try clear q1
                          try clear hx1
                          try clear p2
                          try clear c3
                          try clear c5
                          try clear c8
                          try clear c8b0
                          try clear c8b1
                          try clear c8b2
                          try clear c9
                          try clear c9b0
                          try clear c9b1
                          try clear c11
                          try clear c12
                          try clear c12b0
                          try clear c13
                          try clear c13b0
                          try clear c14
                          try clear c14b0
                          try clear c15
                          try clear c15b0
                          try clear c15b1
                          try clear p15
                          try clear q15
                          try clear hx15
                          try clear c16
                          try clear c16b0
                          try clear c16b1
                          try clear c16b2
                          try clear hx156_0
                          try clear p156
                          try clear p2
                          try clear q156
                          obtain ⟨x7_3, x43_3, rfl, rfl, HA, HK3, HB⟩ := hrel
                          cases gk with
                          | zero => exact absurd HA.out (by simp [crossroadlaw06_PathBack.l1])
                          | succ k3 =>
                            have H := HA.out
                            clear HA
                            simp only [crossroadlaw06_PathBack.l1] at H
                            by_cases c17 : x43_3 < ((rdOf ByteArray.empty l0 x32_2).size : Int)
                            · rw [if_pos c17] at H
                              have c17b0 : decide (x43_3 < ((rdOf ByteArray.empty l0 x32_2).size : Int)) = true := decide_eq_true c17
                              clear c17
                              by_cases c18 : 0 ≤ x43_3
                              · rw [if_pos c18] at H
                                have c18b0 : decide (0 ≤ x43_3) = true := decide_eq_true c18
                                clear c18
                                by_cases c19 : x43_3 < ((rdOf ByteArray.empty l0 x32_2).size : Int)
                                · rw [if_pos c19] at H
                                  have c19b0 : decide (x43_3 < ((rdOf ByteArray.empty l0 x32_2).size : Int)) = true := decide_eq_true c19
                                  clear c19
                                  by_cases c21 : a2 = true
                                  · subst c21
                                    have H1 : ((crossroadlaw06_hex.f (bt (rdOf ByteArray.empty l0 x32_2) x43_3)).bind fun t157 => (if x7_3.size + t157.size ≤ 9223372036854775807 then (crossroadlaw06_PathBack.l1 k3 l0 a1 true (x7_3 ++ t157) (rdOf ByteArray.empty l0 x32_2) l0 (l0.length : Int) x32_2 ((rdOf ByteArray.empty l0 x32_2).size : Int) (wrap64 (x43_3 + 1))) else (none))) = some r := by rw [if_pos rfl] at H; exact H
                                    clear H
                                    have H := H1
                                    clear H1
                                    replace H := Option.bind_eq_some_iff.mp H
                                    obtain ⟨t157, A220, H⟩ := H
                                    replace H : (if x7_3.size + t157.size ≤ 9223372036854775807 then (crossroadlaw06_PathBack.l1 k3 l0 a1 true (x7_3 ++ t157) (rdOf ByteArray.empty l0 x32_2) l0 (l0.length : Int) x32_2 ((rdOf ByteArray.empty l0 x32_2).size : Int) (wrap64 (x43_3 + 1))) else (none)) = some r := H
                                    have A22 := Aside0.mk A220
                                    clear A220
                                    by_cases c23 : x7_3.size + t157.size ≤ 9223372036854775807
                                    · rw [if_pos c23] at H
                                      have c23b0 := eq_true c23
                                      have c23b1 : decide (x7_3.size + t157.size ≤ 9223372036854775807) = true := decide_eq_true c23
                                      try have c23b2 : (9223372036854775807 < x7_3.size + t157.size) = False := eq_false (Nat.not_lt.2 c23)
                                      have H' := Aside0.mk H
                                      clear H
                                      have p20 : 0 ≤ (x43_3 : Int) := of_decide_eq_true (by first | (with_reducible assumption) | assumption)
                                      have q20 : x43_3 < ((rdOf ByteArray.empty l0 x32_2).size : Int) := of_decide_eq_true (by first | (with_reducible assumption) | assumption)
                                      have hx20 := bt_at (rdOf ByteArray.empty l0 x32_2) x43_3
                                      replace p20 := eq_true p20
                                      replace q20 := eq_true q20
                                      go_wp2_with (first | (go_at_call 11; (with_reducible refine (crossroadlaw06_hex.calls (bt (rdOf ByteArray.empty l0 x32_2) x43_3) t157 _ A22.out).mono ?_); rintro e w' ⟨rfl, ⟨nd, rfl⟩⟩; (try first | exact ⟨rfl, _, World.drewN_drewN _ _ _⟩ | exact ⟨rfl, _, Eq.trans (World.drewN_drewN _ _ _) (congrArg (World.drewN _) (Nat.add_assoc _ _ _))⟩)))
                                      repeat (go_quiet (first | (go_at_call 11; (with_reducible refine (crossroadlaw06_hex.calls (bt (rdOf ByteArray.empty l0 x32_2) x43_3) t157 _ A22.out).mono ?_); rintro e w' ⟨rfl, ⟨nd, rfl⟩⟩; (try first | exact ⟨rfl, _, World.drewN_drewN _ _ _⟩ | exact ⟨rfl, _, Eq.trans (World.drewN_drewN _ _ _) (congrArg (World.drewN _) (Nat.add_assoc _ _ _))⟩))); try go_wp2_with (first | (go_at_call 11; (with_reducible refine (crossroadlaw06_hex.calls (bt (rdOf ByteArray.empty l0 x32_2) x43_3) t157 _ A22.out).mono ?_); rintro e w' ⟨rfl, ⟨nd, rfl⟩⟩; (try first | exact ⟨rfl, _, World.drewN_drewN _ _ _⟩ | exact ⟨rfl, _, Eq.trans (World.drewN_drewN _ _ _) (congrArg (World.drewN _) (Nat.add_assoc _ _ _))⟩))))
                                      go_roundg k3
                                      case measure => have := HJ5.out; have := HK2.out; have := HK3.out; omega
                                      case rel => exact ⟨(x7_3 ++ t157), (wrap64 (x43_3 + 1)), (by first | rfl | (simp; done) | (simp [*]; done)), (by first | rfl | (simp; done) | (simp [*]; done)), H', ⟨by have := HJ5.out; have := HK2.out; have := HK3.out; omega⟩, ⟨by repeat (first | (with_reducible first | exact HB.out | apply below_alloc | apply pw_below_drewN | apply below_drew1) | exact HB.out)⟩⟩
                                    · rw [if_neg c23] at H
                                      exact absurd H (by simp)
                                  · replace c21 := Bool.eq_false_iff.mpr c21
                                    subst c21
                                    have H1 : (if (bt (rdOf ByteArray.empty l0 x32_2) x43_3) = 47 then ((crossroadlaw06_hex.f (bt (rdOf ByteArray.empty l0 x32_2) x43_3)).bind fun t158 => (if x7_3.size + t158.size ≤ 9223372036854775807 then (crossroadlaw06_PathBack.l1 k3 l0 a1 false (x7_3 ++ t158) (rdOf ByteArray.empty l0 x32_2) l0 (l0.length : Int) x32_2 ((rdOf ByteArray.empty l0 x32_2).size : Int) (wrap64 (x43_3 + 1))) else (none))) else (if (bt (rdOf ByteArray.empty l0 x32_2) x43_3) = 63 then ((crossroadlaw06_hex.f (bt (rdOf ByteArray.empty l0 x32_2) x43_3)).bind fun t159 => (if x7_3.size + t159.size ≤ 9223372036854775807 then (crossroadlaw06_PathBack.l1 k3 l0 a1 false (x7_3 ++ t159) (rdOf ByteArray.empty l0 x32_2) l0 (l0.length : Int) x32_2 ((rdOf ByteArray.empty l0 x32_2).size : Int) (wrap64 (x43_3 + 1))) else (none))) else (if (bt (rdOf ByteArray.empty l0 x32_2) x43_3) = 37 then ((crossroadlaw06_hex.f (bt (rdOf ByteArray.empty l0 x32_2) x43_3)).bind fun t160 => (if x7_3.size + t160.size ≤ 9223372036854775807 then (crossroadlaw06_PathBack.l1 k3 l0 a1 false (x7_3 ++ t160) (rdOf ByteArray.empty l0 x32_2) l0 (l0.length : Int) x32_2 ((rdOf ByteArray.empty l0 x32_2).size : Int) (wrap64 (x43_3 + 1))) else (none))) else (if x43_3 ≤ (wrap64 (x43_3 + 1)) then (if (wrap64 (x43_3 + 1)) ≤ ((rdOf ByteArray.empty l0 x32_2).size : Int) then (if x7_3.size + ((rdOf ByteArray.empty l0 x32_2).extract (x43_3 : Int).toNat ((wrap64 (x43_3 + 1)) : Int).toNat).size ≤ 9223372036854775807 then (crossroadlaw06_PathBack.l1 k3 l0 a1 false (x7_3 ++ ((rdOf ByteArray.empty l0 x32_2).extract (x43_3 : Int).toNat ((wrap64 (x43_3 + 1)) : Int).toNat)) (rdOf ByteArray.empty l0 x32_2) l0 (l0.length : Int) x32_2 ((rdOf ByteArray.empty l0 x32_2).size : Int) (wrap64 (x43_3 + 1))) else (none)) else (none)) else (none))))) = some r := by rw [if_neg (show ¬ (false = true) by decide)] at H; exact H
                                    clear H
                                    have H := H1
                                    clear H1
                                    by_cases c24 : (bt (rdOf ByteArray.empty l0 x32_2) x43_3) = 47
                                    · rw [if_pos c24] at H
                                      have c24b0 : ((bt (rdOf ByteArray.empty l0 x32_2) x43_3) == 47) = true := beq_iff_eq.mpr c24
                                      have c24b1 : ((bt (rdOf ByteArray.empty l0 x32_2) x43_3) != 47) = false := bne_eq_false_iff_eq.mpr c24
                                      clear c24
                                      replace H := Option.bind_eq_some_iff.mp H
                                      obtain ⟨t158, A250, H⟩ := H
                                      replace H : (if x7_3.size + t158.size ≤ 9223372036854775807 then (crossroadlaw06_PathBack.l1 k3 l0 a1 false (x7_3 ++ t158) (rdOf ByteArray.empty l0 x32_2) l0 (l0.length : Int) x32_2 ((rdOf ByteArray.empty l0 x32_2).size : Int) (wrap64 (x43_3 + 1))) else (none)) = some r := H
                                      have A25 := Aside0.mk A250
                                      clear A250
                                      by_cases c26 : x7_3.size + t158.size ≤ 9223372036854775807
                                      · rw [if_pos c26] at H
                                        have c26b0 := eq_true c26
                                        have c26b1 : decide (x7_3.size + t158.size ≤ 9223372036854775807) = true := decide_eq_true c26
                                        try have c26b2 : (9223372036854775807 < x7_3.size + t158.size) = False := eq_false (Nat.not_lt.2 c26)
                                        have H' := Aside0.mk H
                                        clear H
                                        have p20 : 0 ≤ (x43_3 : Int) := of_decide_eq_true (by first | (with_reducible assumption) | assumption)
                                        have q20 : x43_3 < ((rdOf ByteArray.empty l0 x32_2).size : Int) := of_decide_eq_true (by first | (with_reducible assumption) | assumption)
                                        have hx20 := bt_at (rdOf ByteArray.empty l0 x32_2) x43_3
                                        replace p20 := eq_true p20
                                        replace q20 := eq_true q20
                                        go_wp2_with (first | (go_at_call 11; (with_reducible refine (crossroadlaw06_hex.calls (bt (rdOf ByteArray.empty l0 x32_2) x43_3) t158 _ A25.out).mono ?_); rintro e w' ⟨rfl, ⟨nd, rfl⟩⟩; (try first | exact ⟨rfl, _, World.drewN_drewN _ _ _⟩ | exact ⟨rfl, _, Eq.trans (World.drewN_drewN _ _ _) (congrArg (World.drewN _) (Nat.add_assoc _ _ _))⟩)))
                                        repeat (go_quiet (first | (go_at_call 11; (with_reducible refine (crossroadlaw06_hex.calls (bt (rdOf ByteArray.empty l0 x32_2) x43_3) t158 _ A25.out).mono ?_); rintro e w' ⟨rfl, ⟨nd, rfl⟩⟩; (try first | exact ⟨rfl, _, World.drewN_drewN _ _ _⟩ | exact ⟨rfl, _, Eq.trans (World.drewN_drewN _ _ _) (congrArg (World.drewN _) (Nat.add_assoc _ _ _))⟩))); try go_wp2_with (first | (go_at_call 11; (with_reducible refine (crossroadlaw06_hex.calls (bt (rdOf ByteArray.empty l0 x32_2) x43_3) t158 _ A25.out).mono ?_); rintro e w' ⟨rfl, ⟨nd, rfl⟩⟩; (try first | exact ⟨rfl, _, World.drewN_drewN _ _ _⟩ | exact ⟨rfl, _, Eq.trans (World.drewN_drewN _ _ _) (congrArg (World.drewN _) (Nat.add_assoc _ _ _))⟩))))
                                        go_roundg k3
                                        case measure => have := HJ5.out; have := HK2.out; have := HK3.out; omega
                                        case rel => exact ⟨(x7_3 ++ t158), (wrap64 (x43_3 + 1)), (by first | rfl | (simp; done) | (simp [*]; done)), (by first | rfl | (simp; done) | (simp [*]; done)), H', ⟨by have := HJ5.out; have := HK2.out; have := HK3.out; omega⟩, ⟨by repeat (first | (with_reducible first | exact HB.out | apply below_alloc | apply pw_below_drewN | apply below_drew1) | exact HB.out)⟩⟩
                                      · rw [if_neg c26] at H
                                        exact absurd H (by simp)
                                    · rw [if_neg c24] at H
                                      have c24b0 : ((bt (rdOf ByteArray.empty l0 x32_2) x43_3) == 47) = false := beq_eq_false_iff_ne.mpr c24
                                      have c24b1 : ((bt (rdOf ByteArray.empty l0 x32_2) x43_3) != 47) = true := bne_iff_ne.mpr c24
                                      by_cases c27 : (bt (rdOf ByteArray.empty l0 x32_2) x43_3) = 63
                                      · rw [if_pos c27] at H
                                        have c27b0 : ((bt (rdOf ByteArray.empty l0 x32_2) x43_3) == 63) = true := beq_iff_eq.mpr c27
                                        have c27b1 : ((bt (rdOf ByteArray.empty l0 x32_2) x43_3) != 63) = false := bne_eq_false_iff_eq.mpr c27
                                        clear c27
                                        replace H := Option.bind_eq_some_iff.mp H
                                        obtain ⟨t159, A280, H⟩ := H
                                        replace H : (if x7_3.size + t159.size ≤ 9223372036854775807 then (crossroadlaw06_PathBack.l1 k3 l0 a1 false (x7_3 ++ t159) (rdOf ByteArray.empty l0 x32_2) l0 (l0.length : Int) x32_2 ((rdOf ByteArray.empty l0 x32_2).size : Int) (wrap64 (x43_3 + 1))) else (none)) = some r := H
                                        have A28 := Aside0.mk A280
                                        clear A280
                                        by_cases c29 : x7_3.size + t159.size ≤ 9223372036854775807
                                        · rw [if_pos c29] at H
                                          have c29b0 := eq_true c29
                                          have c29b1 : decide (x7_3.size + t159.size ≤ 9223372036854775807) = true := decide_eq_true c29
                                          try have c29b2 : (9223372036854775807 < x7_3.size + t159.size) = False := eq_false (Nat.not_lt.2 c29)
                                          have H' := Aside0.mk H
                                          clear H
                                          have p20 : 0 ≤ (x43_3 : Int) := of_decide_eq_true (by first | (with_reducible assumption) | assumption)
                                          have q20 : x43_3 < ((rdOf ByteArray.empty l0 x32_2).size : Int) := of_decide_eq_true (by first | (with_reducible assumption) | assumption)
                                          have hx20 := bt_at (rdOf ByteArray.empty l0 x32_2) x43_3
                                          replace p20 := eq_true p20
                                          replace q20 := eq_true q20
                                          go_wp2_with (first | (go_at_call 11; (with_reducible refine (crossroadlaw06_hex.calls (bt (rdOf ByteArray.empty l0 x32_2) x43_3) t159 _ A28.out).mono ?_); rintro e w' ⟨rfl, ⟨nd, rfl⟩⟩; (try first | exact ⟨rfl, _, World.drewN_drewN _ _ _⟩ | exact ⟨rfl, _, Eq.trans (World.drewN_drewN _ _ _) (congrArg (World.drewN _) (Nat.add_assoc _ _ _))⟩)))
                                          repeat (go_quiet (first | (go_at_call 11; (with_reducible refine (crossroadlaw06_hex.calls (bt (rdOf ByteArray.empty l0 x32_2) x43_3) t159 _ A28.out).mono ?_); rintro e w' ⟨rfl, ⟨nd, rfl⟩⟩; (try first | exact ⟨rfl, _, World.drewN_drewN _ _ _⟩ | exact ⟨rfl, _, Eq.trans (World.drewN_drewN _ _ _) (congrArg (World.drewN _) (Nat.add_assoc _ _ _))⟩))); try go_wp2_with (first | (go_at_call 11; (with_reducible refine (crossroadlaw06_hex.calls (bt (rdOf ByteArray.empty l0 x32_2) x43_3) t159 _ A28.out).mono ?_); rintro e w' ⟨rfl, ⟨nd, rfl⟩⟩; (try first | exact ⟨rfl, _, World.drewN_drewN _ _ _⟩ | exact ⟨rfl, _, Eq.trans (World.drewN_drewN _ _ _) (congrArg (World.drewN _) (Nat.add_assoc _ _ _))⟩))))
                                          go_roundg k3
                                          case measure => have := HJ5.out; have := HK2.out; have := HK3.out; omega
                                          case rel => exact ⟨(x7_3 ++ t159), (wrap64 (x43_3 + 1)), (by first | rfl | (simp; done) | (simp [*]; done)), (by first | rfl | (simp; done) | (simp [*]; done)), H', ⟨by have := HJ5.out; have := HK2.out; have := HK3.out; omega⟩, ⟨by repeat (first | (with_reducible first | exact HB.out | apply below_alloc | apply pw_below_drewN | apply below_drew1) | exact HB.out)⟩⟩
                                        · rw [if_neg c29] at H
                                          exact absurd H (by simp)
                                      · rw [if_neg c27] at H
                                        have c27b0 : ((bt (rdOf ByteArray.empty l0 x32_2) x43_3) == 63) = false := beq_eq_false_iff_ne.mpr c27
                                        have c27b1 : ((bt (rdOf ByteArray.empty l0 x32_2) x43_3) != 63) = true := bne_iff_ne.mpr c27
                                        by_cases c30 : (bt (rdOf ByteArray.empty l0 x32_2) x43_3) = 37
                                        · rw [if_pos c30] at H
                                          have c30b0 : ((bt (rdOf ByteArray.empty l0 x32_2) x43_3) == 37) = true := beq_iff_eq.mpr c30
                                          have c30b1 : ((bt (rdOf ByteArray.empty l0 x32_2) x43_3) != 37) = false := bne_eq_false_iff_eq.mpr c30
                                          clear c30
                                          replace H := Option.bind_eq_some_iff.mp H
                                          obtain ⟨t160, A310, H⟩ := H
                                          replace H : (if x7_3.size + t160.size ≤ 9223372036854775807 then (crossroadlaw06_PathBack.l1 k3 l0 a1 false (x7_3 ++ t160) (rdOf ByteArray.empty l0 x32_2) l0 (l0.length : Int) x32_2 ((rdOf ByteArray.empty l0 x32_2).size : Int) (wrap64 (x43_3 + 1))) else (none)) = some r := H
                                          have A31 := Aside0.mk A310
                                          clear A310
                                          by_cases c32 : x7_3.size + t160.size ≤ 9223372036854775807
                                          · rw [if_pos c32] at H
                                            have c32b0 := eq_true c32
                                            have c32b1 : decide (x7_3.size + t160.size ≤ 9223372036854775807) = true := decide_eq_true c32
                                            try have c32b2 : (9223372036854775807 < x7_3.size + t160.size) = False := eq_false (Nat.not_lt.2 c32)
                                            have H' := Aside0.mk H
                                            clear H
                                            have p20 : 0 ≤ (x43_3 : Int) := of_decide_eq_true (by first | (with_reducible assumption) | assumption)
                                            have q20 : x43_3 < ((rdOf ByteArray.empty l0 x32_2).size : Int) := of_decide_eq_true (by first | (with_reducible assumption) | assumption)
                                            have hx20 := bt_at (rdOf ByteArray.empty l0 x32_2) x43_3
                                            replace p20 := eq_true p20
                                            replace q20 := eq_true q20
                                            go_wp2_with (first | (go_at_call 11; (with_reducible refine (crossroadlaw06_hex.calls (bt (rdOf ByteArray.empty l0 x32_2) x43_3) t160 _ A31.out).mono ?_); rintro e w' ⟨rfl, ⟨nd, rfl⟩⟩; (try first | exact ⟨rfl, _, World.drewN_drewN _ _ _⟩ | exact ⟨rfl, _, Eq.trans (World.drewN_drewN _ _ _) (congrArg (World.drewN _) (Nat.add_assoc _ _ _))⟩)))
                                            repeat (go_quiet (first | (go_at_call 11; (with_reducible refine (crossroadlaw06_hex.calls (bt (rdOf ByteArray.empty l0 x32_2) x43_3) t160 _ A31.out).mono ?_); rintro e w' ⟨rfl, ⟨nd, rfl⟩⟩; (try first | exact ⟨rfl, _, World.drewN_drewN _ _ _⟩ | exact ⟨rfl, _, Eq.trans (World.drewN_drewN _ _ _) (congrArg (World.drewN _) (Nat.add_assoc _ _ _))⟩))); try go_wp2_with (first | (go_at_call 11; (with_reducible refine (crossroadlaw06_hex.calls (bt (rdOf ByteArray.empty l0 x32_2) x43_3) t160 _ A31.out).mono ?_); rintro e w' ⟨rfl, ⟨nd, rfl⟩⟩; (try first | exact ⟨rfl, _, World.drewN_drewN _ _ _⟩ | exact ⟨rfl, _, Eq.trans (World.drewN_drewN _ _ _) (congrArg (World.drewN _) (Nat.add_assoc _ _ _))⟩))))
                                            go_roundg k3
                                            case measure => have := HJ5.out; have := HK2.out; have := HK3.out; omega
                                            case rel => exact ⟨(x7_3 ++ t160), (wrap64 (x43_3 + 1)), (by first | rfl | (simp; done) | (simp [*]; done)), (by first | rfl | (simp; done) | (simp [*]; done)), H', ⟨by have := HJ5.out; have := HK2.out; have := HK3.out; omega⟩, ⟨by repeat (first | (with_reducible first | exact HB.out | apply below_alloc | apply pw_below_drewN | apply below_drew1) | exact HB.out)⟩⟩
                                          · rw [if_neg c32] at H
                                            exact absurd H (by simp)
                                        · rw [if_neg c30] at H
                                          have c30b0 : ((bt (rdOf ByteArray.empty l0 x32_2) x43_3) == 37) = false := beq_eq_false_iff_ne.mpr c30
                                          have c30b1 : ((bt (rdOf ByteArray.empty l0 x32_2) x43_3) != 37) = true := bne_iff_ne.mpr c30
                                          have c33b0 := eq_true (of_decide_eq_true (by first | (with_reducible assumption) | assumption) : 0 ≤ x43_3)
                                          by_cases c34 : x43_3 ≤ (wrap64 (x43_3 + 1))
                                          · rw [if_pos c34] at H
                                            have c34b0 := eq_true c34
                                            have c34b1 : decide (x43_3 ≤ (wrap64 (x43_3 + 1))) = true := decide_eq_true c34
                                            by_cases c35 : (wrap64 (x43_3 + 1)) ≤ ((rdOf ByteArray.empty l0 x32_2).size : Int)
                                            · rw [if_pos c35] at H
                                              have c35b0 := eq_true c35
                                              have c35b1 : decide ((wrap64 (x43_3 + 1)) ≤ ((rdOf ByteArray.empty l0 x32_2).size : Int)) = true := decide_eq_true c35
                                              by_cases c36 : x7_3.size + ((rdOf ByteArray.empty l0 x32_2).extract (x43_3 : Int).toNat ((wrap64 (x43_3 + 1)) : Int).toNat).size ≤ 9223372036854775807
                                              · rw [if_pos c36] at H
                                                have c36b0 := eq_true c36
                                                have c36b1 : decide (x7_3.size + ((rdOf ByteArray.empty l0 x32_2).extract (x43_3 : Int).toNat ((wrap64 (x43_3 + 1)) : Int).toNat).size ≤ 9223372036854775807) = true := decide_eq_true c36
                                                try have c36b2 : (9223372036854775807 < x7_3.size + ((rdOf ByteArray.empty l0 x32_2).extract (x43_3 : Int).toNat ((wrap64 (x43_3 + 1)) : Int).toNat).size) = False := eq_false (Nat.not_lt.2 c36)
                                                have H' := Aside0.mk H
                                                clear H
                                                have p20 : 0 ≤ (x43_3 : Int) := of_decide_eq_true (by first | (with_reducible assumption) | assumption)
                                                have q20 : x43_3 < ((rdOf ByteArray.empty l0 x32_2).size : Int) := of_decide_eq_true (by first | (with_reducible assumption) | assumption)
                                                have hx20 := bt_at (rdOf ByteArray.empty l0 x32_2) x43_3
                                                replace p20 := eq_true p20
                                                replace q20 := eq_true q20
                                                go_wp2
                                                repeat (go_quiet (fail); try go_wp2)
                                                go_roundg k3
                                                case measure => have := HJ5.out; have := HK2.out; have := HK3.out; omega
                                                case rel => exact ⟨(x7_3 ++ ((rdOf ByteArray.empty l0 x32_2).extract (x43_3 : Int).toNat ((wrap64 (x43_3 + 1)) : Int).toNat)), (wrap64 (x43_3 + 1)), (by first | rfl | (simp; done) | (simp [*]; done)), (by first | rfl | (simp; done) | (simp [*]; done)), H', ⟨by have := HJ5.out; have := HK2.out; have := HK3.out; omega⟩, ⟨by repeat (first | (with_reducible first | exact HB.out | apply below_alloc | apply pw_below_drewN | apply below_drew1) | exact HB.out)⟩⟩
                                              · rw [if_neg c36] at H
                                                exact absurd H (by simp)
                                            · rw [if_neg c35] at H
                                              exact absurd H (by simp)
                                          · rw [if_neg c34] at H
                                            exact absurd H (by simp)
                                · rw [if_neg c19] at H
                                  exact absurd H (by simp)
                              · rw [if_neg c18] at H
                                exact absurd H (by simp)
                            · rw [if_neg c17] at H
                              have c17b0 : decide (x43_3 < ((rdOf ByteArray.empty l0 x32_2).size : Int)) = false := decide_eq_false c17
                              clear c17
                              have H' := Aside0.mk H
                              clear H
                              go_wp2
                              repeat (go_quiet (fail); try go_wp2)
                              go_roundg k3
                              case measure => have := HJ5.out; have := HK2.out; have := HK3.out; omega
                              case rel => exact ⟨(x7_3), (wrap64 (x32_2 + 1)), (by first | rfl | (simp; done) | (simp [*]; done)), (by first | rfl | (simp; done) | (simp [*]; done)), H', ⟨by have := HJ5.out; have := HK2.out; have := HK3.out; omega⟩, ⟨by repeat (first | (with_reducible first | exact HB.out | apply below_alloc | apply pw_below_drewN | apply below_drew1) | exact HB.out)⟩⟩
                      · rw [if_neg c16] at H
                        exact absurd H (by simp)
                  · rw [if_neg c14] at H
                    exact absurd H (by simp)
                · rw [if_neg c13] at H
                  exact absurd H (by simp)
              · rw [if_neg c12] at H
                have c12b0 : decide (x32_2 < (l0.length : Int)) = false := decide_eq_false c12
                clear c12
                by_cases c37 : x7_2.toList = ([47] : List UInt8)
                · rw [if_pos c37] at H
                  have c37b0 : (x7_2.toList == ([47] : List UInt8)) = true := beq_iff_eq.mpr c37
                  have c37b1 : (x7_2.toList != ([47] : List UInt8)) = false := bne_eq_false_iff_eq.mpr c37
                  clear c37
                  obtain rfl := Option.some.inj H
                  go_wp2
                  repeat (go_quiet (fail); try go_wp2)
                  go_ret
                  exact ⟨by first | rfl | (simp [errW_none, errW_some] <;> rfl) | (simp [*, errW_none, errW_some] <;> rfl), by repeat (first | (with_reducible first | exact HB.out | apply below_alloc | apply pw_below_drewN | apply below_drew1) | exact HB.out)⟩
                · rw [if_neg c37] at H
                  have c37b0 : (x7_2.toList == ([47] : List UInt8)) = false := beq_eq_false_iff_ne.mpr c37
                  have c37b1 : (x7_2.toList != ([47] : List UInt8)) = true := bne_iff_ne.mpr c37
                  by_cases c38 : x7_2.size + 1 ≤ 9223372036854775807
                  · rw [if_pos c38] at H
                    have c38b0 := eq_true c38
                    have c38b1 : decide (x7_2.size + 1 ≤ 9223372036854775807) = true := decide_eq_true c38
                    try have c38b2 : (9223372036854775807 < x7_2.size + 1) = False := eq_false (Nat.not_lt.2 c38)
                    by_cases c39 : (x7_2 ++ (⟨#[63]⟩ : ByteArray)).size + a1.size ≤ 9223372036854775807
                    · rw [if_pos c39] at H
                      have c39b0 := eq_true c39
                      have c39b1 : decide ((x7_2 ++ (⟨#[63]⟩ : ByteArray)).size + a1.size ≤ 9223372036854775807) = true := decide_eq_true c39
                      try have c39b2 : (9223372036854775807 < (x7_2 ++ (⟨#[63]⟩ : ByteArray)).size + a1.size) = False := eq_false (Nat.not_lt.2 c39)
                      try have c39b3 : (9223372036854775807 < x7_2.size + 1 + a1.size) = False := eq_false (by have h_ := c39; simp only [ByteArray.size_append] at h_; have e0_ : (⟨#[63]⟩ : ByteArray).size = 1 := rfl; omega)
                      replace H := Option.bind_eq_some_iff.mp H
                      obtain ⟨⟨t161, t162⟩, A400, H⟩ := H
                      replace H : (if (l0.length : Int) > 8 then (if t162 = true then (some false) else (some ((t161.length : Int) == 0))) else (if t162 = true then (crossroadlaw06_PathBack.j3 k2 l0 t161 ((t161.length : Int) != (l0.length : Int))) else (crossroadlaw06_PathBack.j3 k2 l0 t161 true))) = some r := H
                      have A40 := Aside0.mk A400
                      clear A400
                      by_cases c41 : (l0.length : Int) > 8
                      · rw [if_pos c41] at H
                        have c41b0 : decide (8 < (l0.length : Int)) = true := decide_eq_true c41
                        have c41b1 : decide (8 < l0.length) = true := decide_eq_true (by omega)
                        clear c41
                        by_cases c42 : t162 = true
                        · subst c42
                          have H1 : (some false) = some r := by rw [if_pos rfl] at H; exact H
                          clear H
                          have H := H1
                          clear H1
                          obtain rfl := Option.some.inj H
                          go_wp2_with (first | (go_at_call 12; (with_reducible refine (path_Split.calls k2 ((x7_2 ++ (⟨#[63]⟩ : ByteArray)) ++ a1) t161 true _ A40.out).mono ?_); rintro e w43 ⟨v163, rfl, ho0, hb⟩; have n0_ := Aside0.mk (Kd.R_lower ho0 (below_size (by repeat (first | (with_reducible first | exact HB.out | apply below_alloc | apply pw_below_drewN | apply below_drew1) | exact HB.out)))); have n1_ := Aside0.mk (below_step (by repeat (first | (with_reducible first | exact HB.out | apply below_alloc | apply pw_below_drewN | apply below_drew1) | exact HB.out)) hb); clear HB; have HO164 := n0_; have HB := n1_; clear n0_ n1_; (try clear hb); (try clear hb2); (try clear hk); (try clear hi); (try clear ho0)))
                          repeat (go_quiet (first | (go_at_call 12; (with_reducible refine (path_Split.calls k2 ((x7_2 ++ (⟨#[63]⟩ : ByteArray)) ++ a1) t161 true _ A40.out).mono ?_); rintro e w43 ⟨v163, rfl, ho0, hb⟩; have n0_ := Aside0.mk (Kd.R_lower ho0 (below_size (by repeat (first | (with_reducible first | exact HB.out | apply below_alloc | apply pw_below_drewN | apply below_drew1) | exact HB.out)))); have n1_ := Aside0.mk (below_step (by repeat (first | (with_reducible first | exact HB.out | apply below_alloc | apply pw_below_drewN | apply below_drew1) | exact HB.out)) hb); clear HB; have HO164 := n0_; have HB := n1_; clear n0_ n1_; (try clear hb); (try clear hb2); (try clear hk); (try clear hi); (try clear ho0))); try go_wp2_with (first | (go_at_call 12; (with_reducible refine (path_Split.calls k2 ((x7_2 ++ (⟨#[63]⟩ : ByteArray)) ++ a1) t161 true _ A40.out).mono ?_); rintro e w43 ⟨v163, rfl, ho0, hb⟩; have n0_ := Aside0.mk (Kd.R_lower ho0 (below_size (by repeat (first | (with_reducible first | exact HB.out | apply below_alloc | apply pw_below_drewN | apply below_drew1) | exact HB.out)))); have n1_ := Aside0.mk (below_step (by repeat (first | (with_reducible first | exact HB.out | apply below_alloc | apply pw_below_drewN | apply below_drew1) | exact HB.out)) hb); clear HB; have HO164 := n0_; have HB := n1_; clear n0_ n1_; (try clear hb); (try clear hb2); (try clear hk); (try clear hi); (try clear ho0))))
                          go_ret
                          exact ⟨by first | rfl | (simp [errW_none, errW_some] <;> rfl) | (simp [*, errW_none, errW_some] <;> rfl), by repeat (first | (with_reducible first | exact HB.out | apply below_alloc | apply pw_below_drewN | apply below_drew1) | exact HB.out)⟩
                        · replace c42 := Bool.eq_false_iff.mpr c42
                          subst c42
                          have H1 : (some ((t161.length : Int) == 0)) = some r := by rw [if_neg (show ¬ (false = true) by decide)] at H; exact H
                          clear H
                          have H := H1
                          clear H1
                          obtain rfl := Option.some.inj H
                          go_wp2_with (first | (go_at_call 12; (with_reducible refine (path_Split.calls k2 ((x7_2 ++ (⟨#[63]⟩ : ByteArray)) ++ a1) t161 false _ A40.out).mono ?_); rintro e w44 ⟨v163, rfl, ho0, hb⟩; have n0_ := Aside0.mk (Kd.R_lower ho0 (below_size (by repeat (first | (with_reducible first | exact HB.out | apply below_alloc | apply pw_below_drewN | apply below_drew1) | exact HB.out)))); have n1_ := Aside0.mk (below_step (by repeat (first | (with_reducible first | exact HB.out | apply below_alloc | apply pw_below_drewN | apply below_drew1) | exact HB.out)) hb); clear HB; have HO164 := n0_; have HB := n1_; clear n0_ n1_; (try clear hb); (try clear hb2); (try clear hk); (try clear hi); (try clear ho0); obtain ⟨Ao45, co45, eo45⟩ := Kd.R_slice HO164.out; subst eo45))
                          repeat (go_quiet (first | (go_at_call 12; (with_reducible refine (path_Split.calls k2 ((x7_2 ++ (⟨#[63]⟩ : ByteArray)) ++ a1) t161 false _ A40.out).mono ?_); rintro e w44 ⟨v163, rfl, ho0, hb⟩; have n0_ := Aside0.mk (Kd.R_lower ho0 (below_size (by repeat (first | (with_reducible first | exact HB.out | apply below_alloc | apply pw_below_drewN | apply below_drew1) | exact HB.out)))); have n1_ := Aside0.mk (below_step (by repeat (first | (with_reducible first | exact HB.out | apply below_alloc | apply pw_below_drewN | apply below_drew1) | exact HB.out)) hb); clear HB; have HO164 := n0_; have HB := n1_; clear n0_ n1_; (try clear hb); (try clear hb2); (try clear hk); (try clear hi); (try clear ho0); obtain ⟨Ao45, co45, eo45⟩ := Kd.R_slice HO164.out; subst eo45)); try go_wp2_with (first | (go_at_call 12; (with_reducible refine (path_Split.calls k2 ((x7_2 ++ (⟨#[63]⟩ : ByteArray)) ++ a1) t161 false _ A40.out).mono ?_); rintro e w44 ⟨v163, rfl, ho0, hb⟩; have n0_ := Aside0.mk (Kd.R_lower ho0 (below_size (by repeat (first | (with_reducible first | exact HB.out | apply below_alloc | apply pw_below_drewN | apply below_drew1) | exact HB.out)))); have n1_ := Aside0.mk (below_step (by repeat (first | (with_reducible first | exact HB.out | apply below_alloc | apply pw_below_drewN | apply below_drew1) | exact HB.out)) hb); clear HB; have HO164 := n0_; have HB := n1_; clear n0_ n1_; (try clear hb); (try clear hb2); (try clear hk); (try clear hi); (try clear ho0); obtain ⟨Ao45, co45, eo45⟩ := Kd.R_slice HO164.out; subst eo45)))
                          go_ret
                          exact ⟨by first | rfl | (simp [errW_none, errW_some] <;> rfl) | (simp [*, errW_none, errW_some] <;> rfl), by repeat (first | (with_reducible first | exact HB.out | apply below_alloc | apply pw_below_drewN | apply below_drew1) | exact HB.out)⟩
                      · rw [if_neg c41] at H
                        have c41b0 : decide (8 < (l0.length : Int)) = false := decide_eq_false c41
                        have c41b1 : decide (8 < l0.length) = false := decide_eq_false (by omega)
                        clear c41
                        have HC46 := Aside0.mk H
                        clear H
                        go_upto_region 26 with (first | (go_at_call 12; (with_reducible refine (path_Split.calls k2 ((x7_2 ++ (⟨#[63]⟩ : ByteArray)) ++ a1) t161 t162 _ A40.out).mono ?_); rintro e w47 ⟨v163, rfl, ho0, hb⟩; have n0_ := Aside0.mk (Kd.R_lower ho0 (below_size (by repeat (first | (with_reducible first | exact HB.out | apply below_alloc | apply pw_below_drewN | apply below_drew1) | exact HB.out)))); have n1_ := Aside0.mk (below_step (by repeat (first | (with_reducible first | exact HB.out | apply below_alloc | apply pw_below_drewN | apply below_drew1) | exact HB.out)) hb); clear HB; have HO164 := n0_; have HB := n1_; clear n0_ n1_; (try clear hb); (try clear hb2); (try clear hk); (try clear hi); (try clear ho0)))
                        repeat (go_quiet (first | (go_at_call 12; (with_reducible refine (path_Split.calls k2 ((x7_2 ++ (⟨#[63]⟩ : ByteArray)) ++ a1) t161 t162 _ A40.out).mono ?_); rintro e w47 ⟨v163, rfl, ho0, hb⟩; have n0_ := Aside0.mk (Kd.R_lower ho0 (below_size (by repeat (first | (with_reducible first | exact HB.out | apply below_alloc | apply pw_below_drewN | apply below_drew1) | exact HB.out)))); have n1_ := Aside0.mk (below_step (by repeat (first | (with_reducible first | exact HB.out | apply below_alloc | apply pw_below_drewN | apply below_drew1) | exact HB.out)) hb); clear HB; have HO164 := n0_; have HB := n1_; clear n0_ n1_; (try clear hb); (try clear hb2); (try clear hk); (try clear hi); (try clear ho0))); go_upto_region 26 with (first | (go_at_call 12; (with_reducible refine (path_Split.calls k2 ((x7_2 ++ (⟨#[63]⟩ : ByteArray)) ++ a1) t161 t162 _ A40.out).mono ?_); rintro e w47 ⟨v163, rfl, ho0, hb⟩; have n0_ := Aside0.mk (Kd.R_lower ho0 (below_size (by repeat (first | (with_reducible first | exact HB.out | apply below_alloc | apply pw_below_drewN | apply below_drew1) | exact HB.out)))); have n1_ := Aside0.mk (below_step (by repeat (first | (with_reducible first | exact HB.out | apply below_alloc | apply pw_below_drewN | apply below_drew1) | exact HB.out)) hb); clear HB; have HO164 := n0_; have HB := n1_; clear n0_ n1_; (try clear hb); (try clear hb2); (try clear hk); (try clear hi); (try clear ho0))))
                        (try simp only [Act.put, List.setIfInBounds_toArray, List.set_cons_zero, List.set_cons_succ])
                        go_cut [103] (fun v103 wc => ∃ (kq : Nat) (x103_45 : Bool), v103 = .bool x103_45 ∧ Aside0 (crossroadlaw06_PathBack.j3 kq l0 t161 x103_45 = some r) ∧ Aside0 (kq ≤ k2) ∧ Aside0 (Kd.R Kd.string 9 wc w.heap.size (fun _ => True) v163 t161) ∧ Aside0 (Below w.heap.size w wc))
                        case first =>
                          have H := HC46.out
                          clear HC46
                          by_cases c48 : t162 = true
                          · subst c48
                            have H1 : (crossroadlaw06_PathBack.j3 k2 l0 t161 ((t161.length : Int) != (l0.length : Int))) = some r := by rw [if_pos rfl] at H; exact H
                            clear H
                            have H := H1
                            clear H1
                            have H' := Aside0.mk H
                            clear H
                            obtain ⟨Ao49, co49, eo49⟩ := Kd.R_slice HO164.out
                            subst eo49
                            go_wp2
                            repeat (go_quiet (fail); try go_wp2)
                            go_meet
                            case rel => exact ⟨_, (((t161.length : Int) != (l0.length : Int))), (by first | rfl | (simp; done) | (simp [*]; done)), H', ⟨by have := HJ5.out; have := HK2.out; first | omega | exact Nat.le_refl _⟩, ⟨by (with_reducible repeat (first | apply Kd.R_alloc | apply Kd.R_drewN | apply Kd.R_drew)); exact HO164.out⟩, ⟨by repeat (first | (with_reducible first | exact HB.out | apply below_alloc | apply pw_below_drewN | apply below_drew1) | exact HB.out)⟩⟩
                          · replace c48 := Bool.eq_false_iff.mpr c48
                            subst c48
                            have H1 : (crossroadlaw06_PathBack.j3 k2 l0 t161 true) = some r := by rw [if_neg (show ¬ (false = true) by decide)] at H; exact H
                            clear H
                            have H := H1
                            clear H1
                            have H' := Aside0.mk H
                            clear H
                            go_wp2
                            repeat (go_quiet (fail); try go_wp2)
                            go_meet
                            case rel => exact ⟨_, (true), (by first | rfl | (simp; done) | (simp [*]; done)), H', ⟨by have := HJ5.out; have := HK2.out; first | omega | exact Nat.le_refl _⟩, ⟨by (with_reducible repeat (first | apply Kd.R_alloc | apply Kd.R_drewN | apply Kd.R_drew)); exact HO164.out⟩, ⟨by repeat (first | (with_reducible first | exact HB.out | apply below_alloc | apply pw_below_drewN | apply below_drew1) | exact HB.out)⟩⟩
                        case rest =>
                          clear HC46
                          try clear c1
                          try clear p1
                          try clear q1
                          try clear hx1
                          try clear c2
                          try clear p2
                          try clear q2
                          try clear hx2
                          try clear c3
                          try clear c4
                          try clear c5
                          try clear p6
                          try clear c8
                          try clear c8b0
                          try clear c8b1
                          try clear c8b2
                          try clear c9
                          try clear c9b0
                          try clear c9b1
                          try clear c11
                          try clear c12
                          try clear c12b0
                          try clear c13
                          try clear c13b0
                          try clear c14
                          try clear c14b0
                          try clear c15
                          try clear c15b0
                          try clear c15b1
                          try clear p15
                          try clear q15
                          try clear hx15
                          try clear c16
                          try clear c16b0
                          try clear c16b1
                          try clear c16b2
                          try clear c17
                          try clear c17b0
                          try clear c18
                          try clear c18b0
                          try clear c19
                          try clear c19b0
                          try clear p20
                          try clear q20
                          try clear hx20
                          try clear c21
                          try clear c23
                          try clear c23b0
                          try clear c23b1
                          try clear c23b2
                          try clear c24
                          try clear c24b0
                          try clear c24b1
                          try clear c26
                          try clear c26b0
                          try clear c26b1
                          try clear c26b2
                          try clear c27
                          try clear c27b0
                          try clear c27b1
                          try clear c29
                          try clear c29b0
                          try clear c29b1
                          try clear c29b2
                          try clear c30
                          try clear c30b0
                          try clear c30b1
                          try clear c32
                          try clear c32b0
                          try clear c32b1
                          try clear c32b2
                          try clear c33
                          try clear c33b0
                          try clear c34
                          try clear c34b0
                          try clear c34b1
                          try clear c35
                          try clear c35b0
                          try clear c35b1
                          try clear c36
                          try clear c36b0
                          try clear c36b1
                          try clear c36b2
                          try clear c37
                          try clear c37b0
                          try clear c37b1
                          try clear c38
                          try clear c38b0
                          try clear c38b1
                          try clear c38b2
                          try clear c39
                          try clear c39b0
                          try clear c39b1
                          try clear c39b2
                          try clear c41
                          try clear c41b0
                          try clear c41b1
                          try clear c42
                          try clear c48
                          try clear hx156_0
                          try clear p1
                          try clear p15
                          try clear p156
                          try clear p2
                          try clear p20
                          try clear q1
                          try clear q15
                          try clear q156
                          try clear q20
                          obtain ⟨kq, x103_45, rfl, HA, HJ45, HO_12, HB⟩ := hcut
                          cases kq with
                          | zero => exact absurd HA.out (by simp [crossroadlaw06_PathBack.j3])
                          | succ kj45 =>
                            have H := HA.out
                            clear HA
                            simp only [crossroadlaw06_PathBack.j3] at H
                            by_cases c50 : x103_45 = true
                            · subst c50
                              have H1 : (some false) = some r := by rw [if_pos rfl] at H; exact H
                              clear H
                              have H := H1
                              clear H1
                              obtain rfl := Option.some.inj H
                              go_wp2
                              repeat (go_quiet (fail); try go_wp2)
                              go_ret
                              exact ⟨by first | rfl | (simp [errW_none, errW_some] <;> rfl) | (simp [*, errW_none, errW_some] <;> rfl), by repeat (first | (with_reducible first | exact HB.out | apply below_alloc | apply pw_below_drewN | apply below_drew1) | exact HB.out)⟩
                            · replace c50 := Bool.eq_false_iff.mpr c50
                              subst c50
                              have H1 : (crossroadlaw06_PathBack.l2 kj45 l0 t161 (l0.length : Int) 0) = some r := by rw [if_neg (show ¬ (false = true) by decide)] at H; exact H
                              clear H
                              have H := H1
                              clear H1
                              have H' := Aside0.mk H
                              clear H
                              go_wp2
                              repeat (go_quiet (fail); try go_wp2)
                              go_loopg [106] kj45 (fun kq v106 w' => ∃ (x106_4 : Int), v106 = .int .i64 x106_4 ∧ Aside0 (crossroadlaw06_PathBack.l2 kq l0 t161 (l0.length : Int) x106_4 = some r) ∧ Aside0 (kq ≤ kj45) ∧ Aside0 (Kd.R Kd.string 9 w' w.heap.size (fun _ => True) v163 t161) ∧ Aside0 (Below w.heap.size w w'))
                              case atStart => exact ⟨(0), (by first | rfl | (simp; done) | (simp [*]; done)), H', ⟨Nat.le_refl _⟩, ⟨by (with_reducible repeat (first | apply Kd.R_alloc | apply Kd.R_drewN | apply Kd.R_drew)); exact HO_12.out⟩, ⟨by repeat (first | (with_reducible first | exact HB.out | apply below_alloc | apply pw_below_drewN | apply below_drew1) | exact HB.out)⟩⟩
                              case round =>
                                clear H'
                                try clear c1
                                try clear p1
                                try clear q1
                                try clear hx1
                                try clear c2
                                try clear p2
                                try clear q2
                                try clear hx2
                                try clear c3
                                try clear c4
                                try clear c5
                                try clear p6
                                try clear c8
                                try clear c8b0
                                try clear c8b1
                                try clear c8b2
                                try clear c9
                                try clear c9b0
                                try clear c9b1
                                try clear c11
                                try clear c12
                                try clear c12b0
                                try clear c13
                                try clear c13b0
                                try clear c14
                                try clear c14b0
                                try clear c15
                                try clear c15b0
                                try clear c15b1
                                try clear p15
                                try clear q15
                                try clear hx15
                                try clear c16
                                try clear c16b0
                                try clear c16b1
                                try clear c16b2
                                try clear c17
                                try clear c17b0
                                try clear c18
                                try clear c18b0
                                try clear c19
                                try clear c19b0
                                try clear p20
                                try clear q20
                                try clear hx20
                                try clear c21
                                try clear c23
                                try clear c23b0
                                try clear c23b1
                                try clear c23b2
                                try clear c24
                                try clear c24b0
                                try clear c24b1
                                try clear c26
                                try clear c26b0
                                try clear c26b1
                                try clear c26b2
                                try clear c27
                                try clear c27b0
                                try clear c27b1
                                try clear c29
                                try clear c29b0
                                try clear c29b1
                                try clear c29b2
                                try clear c30
                                try clear c30b0
                                try clear c30b1
                                try clear c32
                                try clear c32b0
                                try clear c32b1
                                try clear c32b2
                                try clear c33
                                try clear c33b0
                                try clear c34
                                try clear c34b0
                                try clear c34b1
                                try clear c35
                                try clear c35b0
                                try clear c35b1
                                try clear c36
                                try clear c36b0
                                try clear c36b1
                                try clear c36b2
                                try clear c37
                                try clear c37b0
                                try clear c37b1
                                try clear c38
                                try clear c38b0
                                try clear c38b1
                                try clear c38b2
                                try clear c39
                                try clear c39b0
                                try clear c39b1
                                try clear c39b2
                                try clear c41
                                try clear c41b0
                                try clear c41b1
                                try clear c42
                                try clear c48
                                try clear c50
                                try clear hx156_0
                                try clear p1
                                try clear p15
                                try clear p156
                                try clear p2
                                try clear p20
                                try clear p6
                                try clear q1
                                try clear q15
                                try clear q156
                                try clear q2
                                try clear q20
                                obtain ⟨x106_4, rfl, HA, HK4, HO_12, HB⟩ := hrel
                                cases gk with
                                | zero => exact absurd HA.out (by simp [crossroadlaw06_PathBack.l2])
                                | succ k4 =>
                                  have H := HA.out
                                  clear HA
                                  simp only [crossroadlaw06_PathBack.l2] at H
                                  by_cases c51 : x106_4 < (l0.length : Int)
                                  · rw [if_pos c51] at H
                                    have c51b0 : decide (x106_4 < (l0.length : Int)) = true := decide_eq_true c51
                                    clear c51
                                    by_cases c52 : 0 ≤ x106_4
                                    · rw [if_pos c52] at H
                                      have c52b0 : decide (0 ≤ x106_4) = true := decide_eq_true c52
                                      clear c52
                                      by_cases c53 : x106_4 < (t161.length : Int)
                                      · rw [if_pos c53] at H
                                        have c53b0 : decide (x106_4 < (t161.length : Int)) = true := decide_eq_true c53
                                        clear c53
                                        by_cases c54 : x106_4 < (l0.length : Int)
                                        · rw [if_pos c54] at H
                                          have c54b0 : decide (x106_4 < (l0.length : Int)) = true := decide_eq_true c54
                                          clear c54
                                          by_cases c55 : (rdOf ByteArray.empty t161 x106_4).toList = (rdOf ByteArray.empty l0 x106_4).toList
                                          · rw [if_pos c55] at H
                                            have c55b0 : ((rdOf ByteArray.empty t161 x106_4).toList == (rdOf ByteArray.empty l0 x106_4).toList) = true := beq_iff_eq.mpr c55
                                            have c55b1 : ((rdOf ByteArray.empty t161 x106_4).toList != (rdOf ByteArray.empty l0 x106_4).toList) = false := bne_eq_false_iff_eq.mpr c55
                                            clear c55
                                            have H' := Aside0.mk H
                                            clear H
                                            obtain ⟨Ao56, co56, eo56⟩ := Kd.R_slice HO_12.out
                                            subst eo56
                                            have p165 : 0 ≤ (x106_4 : Int) := of_decide_eq_true (by first | (with_reducible assumption) | assumption)
                                            have q165 : x106_4 < (t161.length : Int) := of_decide_eq_true (by first | (with_reducible assumption) | assumption)
                                            obtain ⟨ad165, e165, hx165_0⟩ := Kd.at_string (Kd.R_reads' HO_12.out).2.2 x106_4 p165 q165
                                            cases e165
                                            replace p165 := eq_true p165
                                            replace q165 := eq_true q165
                                            have p166 : 0 ≤ (x106_4 : Int) := of_decide_eq_true (by first | (with_reducible assumption) | assumption)
                                            have q166 : x106_4 < (l0.length : Int) := of_decide_eq_true (by first | (with_reducible assumption) | assumption)
                                            obtain ⟨ad166, e166, hx166_0⟩ := Kd.at_string HR0.out x106_4 p166 q166
                                            cases e166
                                            replace hx166_0 := (HB.out.cell (World.block_lt_of_cell? w _ hx166_0)).trans hx166_0
                                            replace p166 := eq_true p166
                                            replace q166 := eq_true q166
                                            go_wp2
                                            repeat (go_quiet (fail); try go_wp2)
                                            go_roundg k4
                                            case measure => have := HJ5.out; have := HK2.out; have := HJ45.out; have := HK4.out; omega
                                            case rel => exact ⟨(wrap64 (x106_4 + 1)), (by first | rfl | (simp; done) | (simp [*]; done)), H', ⟨by have := HJ5.out; have := HK2.out; have := HJ45.out; have := HK4.out; omega⟩, ⟨by (with_reducible repeat (first | apply Kd.R_alloc | apply Kd.R_drewN | apply Kd.R_drew)); exact HO_12.out⟩, ⟨by repeat (first | (with_reducible first | exact HB.out | apply below_alloc | apply pw_below_drewN | apply below_drew1) | exact HB.out)⟩⟩
                                          · rw [if_neg c55] at H
                                            have c55b0 : ((rdOf ByteArray.empty t161 x106_4).toList == (rdOf ByteArray.empty l0 x106_4).toList) = false := beq_eq_false_iff_ne.mpr c55
                                            have c55b1 : ((rdOf ByteArray.empty t161 x106_4).toList != (rdOf ByteArray.empty l0 x106_4).toList) = true := bne_iff_ne.mpr c55
                                            obtain rfl := Option.some.inj H
                                            obtain ⟨Ao57, co57, eo57⟩ := Kd.R_slice HO_12.out
                                            subst eo57
                                            have p165 : 0 ≤ (x106_4 : Int) := of_decide_eq_true (by first | (with_reducible assumption) | assumption)
                                            have q165 : x106_4 < (t161.length : Int) := of_decide_eq_true (by first | (with_reducible assumption) | assumption)
                                            obtain ⟨ad165, e165, hx165_0⟩ := Kd.at_string (Kd.R_reads' HO_12.out).2.2 x106_4 p165 q165
                                            cases e165
                                            replace p165 := eq_true p165
                                            replace q165 := eq_true q165
                                            have p166 : 0 ≤ (x106_4 : Int) := of_decide_eq_true (by first | (with_reducible assumption) | assumption)
                                            have q166 : x106_4 < (l0.length : Int) := of_decide_eq_true (by first | (with_reducible assumption) | assumption)
                                            obtain ⟨ad166, e166, hx166_0⟩ := Kd.at_string HR0.out x106_4 p166 q166
                                            cases e166
                                            replace hx166_0 := (HB.out.cell (World.block_lt_of_cell? w _ hx166_0)).trans hx166_0
                                            replace p166 := eq_true p166
                                            replace q166 := eq_true q166
                                            go_wp2
                                            repeat (go_quiet (fail); try go_wp2)
                                            go_ret
                                            exact ⟨by first | rfl | (simp [errW_none, errW_some] <;> rfl) | (simp [*, errW_none, errW_some] <;> rfl), by repeat (first | (with_reducible first | exact HB.out | apply below_alloc | apply pw_below_drewN | apply below_drew1) | exact HB.out)⟩
                                        · rw [if_neg c54] at H
                                          exact absurd H (by simp)
                                      · rw [if_neg c53] at H
                                        exact absurd H (by simp)
                                    · rw [if_neg c52] at H
                                      exact absurd H (by simp)
                                  · rw [if_neg c51] at H
                                    have c51b0 : decide (x106_4 < (l0.length : Int)) = false := decide_eq_false c51
                                    clear c51
                                    obtain rfl := Option.some.inj H
                                    go_wp2
                                    repeat (go_quiet (fail); try go_wp2)
                                    go_ret
                                    exact ⟨by first | rfl | (simp [errW_none, errW_some] <;> rfl) | (simp [*, errW_none, errW_some] <;> rfl), by repeat (first | (with_reducible first | exact HB.out | apply below_alloc | apply pw_below_drewN | apply below_drew1) | exact HB.out)⟩
                    · rw [if_neg c39] at H
                      exact absurd H (by simp)
                  · rw [if_neg c38] at H
                    exact absurd H (by simp)
  · replace c5 := Bool.eq_false_iff.mpr c5
    subst c5
    have H1 : (some false) = some r := by rw [if_neg (show ¬ (false = true) by decide)] at H; exact H
    clear H
    have H := H1
    clear H1
    obtain rfl := Option.some.inj H
    go_enter Try.func3, Try.ntmps3
    go_wp2_with (first | (go_at_call 9; (with_reducible refine (crossroadlaw06_fit.calls k  false _ A4.out).mono ?_); rintro e w58 ⟨rfl, hb⟩; have n0_ := Aside0.mk (below_step (by repeat (first | (with_reducible first | exact HB.out | apply below_alloc | apply pw_below_drewN | apply below_drew1) | exact HB.out)) hb); clear HB; have HB := n0_; clear n0_; (try clear hb); (try clear hb2); (try clear hk); (try clear hi)))
    repeat (go_quiet (first | (go_at_call 9; (with_reducible refine (crossroadlaw06_fit.calls k  false _ A4.out).mono ?_); rintro e w58 ⟨rfl, hb⟩; have n0_ := Aside0.mk (below_step (by repeat (first | (with_reducible first | exact HB.out | apply below_alloc | apply pw_below_drewN | apply below_drew1) | exact HB.out)) hb); clear HB; have HB := n0_; clear n0_; (try clear hb); (try clear hb2); (try clear hk); (try clear hi))); try go_wp2_with (first | (go_at_call 9; (with_reducible refine (crossroadlaw06_fit.calls k  false _ A4.out).mono ?_); rintro e w58 ⟨rfl, hb⟩; have n0_ := Aside0.mk (below_step (by repeat (first | (with_reducible first | exact HB.out | apply below_alloc | apply pw_below_drewN | apply below_drew1) | exact HB.out)) hb); clear HB; have HB := n0_; clear n0_; (try clear hb); (try clear hb2); (try clear hk); (try clear hi))))
    go_ret
    exact ⟨by first | rfl | (simp [errW_none, errW_some] <;> rfl) | (simp [*, errW_none, errW_some] <;> rfl), by repeat (first | (with_reducible first | exact HB.out | apply below_alloc | apply pw_below_drewN | apply below_drew1) | exact HB.out)⟩

end Go.Proofs.Ytnafapefbcmmbaa.X

-- Written for this claim by a program of this session (wip/xprint.py). Not trusted: Lean checks it.
import Derived.Test.YtnafapefbcmmbaaX0
import Derived.Test.YtnafapefbcmmbaaX9
import Derived.Test.YtnafapefbcmmbaaX10
import Derived.Test.YtnafapefbcmmbaaX11
import Derived.Test.YtnafapefbcmmbaaX12
import Derived.Test.YtnafapefbcmmbaaX17
namespace Go.Proofs.Ytnafapefbcmmbaa.X
open Go.RowKit Go.Proofs.YtnafapefbcmmbaaW.PrintWords Go.Proofs.YtnafapefbcmmbaaW.PrintLast Go.Proofs.YtnafapefbcmmbaaW.PrintMore
attribute [local go_sem] max2_int min2_int max_two min_two max_three min_three max_four min_four   -- for this text's walks alone
set_option linter.unusedVariables false
set_option linter.unusedSimpArgs false

/-! ### crossroadlaw06_PathShapes: function 6 -/
mutual
def crossroadlaw06_PathShapes.l0 : Nat → Int → List ByteArray → ByteArray → List ByteArray → Int → Int → Option (Bool)
  | 0, _, _, _, _, _, _ => none
  | k + 1, x1, x5, x7, x25, x26, x27 => if x27 < x26 then (if 0 ≤ x27 then (if x27 < (x25.length : Int) then (if 0 < ((rdOf ByteArray.empty x25 x27).size : Int) then (if (bt (rdOf ByteArray.empty x25 x27) 0) = 58 then (if x7.size + 2 ≤ 9223372036854775807 then ((path_Kind.f k (rdOf ByteArray.empty x25 x27)).bind fun t207 => (if t207 = 1 then (crossroadlaw06_PathShapes.l0 k x1 x5 (x7 ++ (⟨#[47, 58]⟩ : ByteArray)) x25 x26 (wrap64 (x27 + 1))) else (some false))) else (none)) else (if (bt (rdOf ByteArray.empty x25 x27) 0) = 42 then (if x7.size + 2 ≤ 9223372036854775807 then ((path_Kind.f k (rdOf ByteArray.empty x25 x27)).bind fun t208 => (if t208 = 2 then (crossroadlaw06_PathShapes.l0 k x1 x5 (x7 ++ (⟨#[47, 42]⟩ : ByteArray)) x25 x26 (wrap64 (x27 + 1))) else (some false))) else (none)) else (if 1 + (rdOf ByteArray.empty x25 x27).size ≤ 9223372036854775807 then (if x7.size + ((⟨#[47]⟩ : ByteArray) ++ (rdOf ByteArray.empty x25 x27)).size ≤ 9223372036854775807 then ((path_Kind.f k (rdOf ByteArray.empty x25 x27)).bind fun t209 => (if t209 = 0 then (crossroadlaw06_PathShapes.l0 k x1 x5 (x7 ++ ((⟨#[47]⟩ : ByteArray) ++ (rdOf ByteArray.empty x25 x27))) x25 x26 (wrap64 (x27 + 1))) else (some false))) else (none)) else (none)))) else (none)) else (none)) else (none)) else (crossroadlaw06_PathShapes.l1 k (Go.bits .and .i64 x1 15) x5 x7 (⟨#[]⟩ : ByteArray) (Go.bits .and .i64 x1 15))
def crossroadlaw06_PathShapes.l1 : Nat → Int → List ByteArray → ByteArray → ByteArray → Int → Option (Bool)
  | 0, _, _, _, _, _ => none
  | k + 1, x1, x5, x7, x11, x12 => if x12 < (x5.length : Int) then (if x12 > x1 then (if x11.size + 1 ≤ 9223372036854775807 then (if 0 ≤ x12 then (if (x11 ++ (⟨#[47]⟩ : ByteArray)).size + (rdOf ByteArray.empty x5 x12).size ≤ 9223372036854775807 then (crossroadlaw06_PathShapes.l1 k x1 x5 x7 ((x11 ++ (⟨#[47]⟩ : ByteArray)) ++ (rdOf ByteArray.empty x5 x12)) (wrap64 (x12 + 1))) else (none)) else (none)) else (none)) else (if 0 ≤ x12 then (if x11.size + (rdOf ByteArray.empty x5 x12).size ≤ 9223372036854775807 then (crossroadlaw06_PathShapes.l1 k x1 x5 x7 (x11 ++ (rdOf ByteArray.empty x5 x12)) (wrap64 (x12 + 1))) else (none)) else (none))) else ((path_Shape.f k x5).bind fun t212 => (if t212.toList = x7.toList then ((path_Join.f k x5 x1).bind fun t213 => (if t213.toList = x11.toList then ((path_Kind.f k (⟨#[]⟩ : ByteArray)).bind fun t214 => (some (t214 == 0))) else (some false))) else (some false)))
end
def crossroadlaw06_PathShapes.f (k : Nat) (a0 : ByteArray) (a1 : Int) : Option (Bool) := (crossroadlaw06_fit.f k).bind fun t200 => (if t200 = true then ((crossroadlaw06_light.f a0).bind fun t201 => (if t201 = true then ((path_Pattern.f k a0).bind fun bt202 => (if bt202.2 = true then (crossroadlaw06_PathShapes.l0 k a1 bt202.1 (⟨#[]⟩ : ByteArray) bt202.1 (bt202.1.length : Int) 0) else (some true))) else (some true))) else (some false))
theorem crossroadlaw06_PathShapes.mono_l : ∀ k, (∀ y0 y1 y2 y3 y4 y5, LeO (crossroadlaw06_PathShapes.l0 k y0 y1 y2 y3 y4 y5) (crossroadlaw06_PathShapes.l0 (k + 1) y0 y1 y2 y3 y4 y5)) ∧ (∀ y0 y1 y2 y3 y4, LeO (crossroadlaw06_PathShapes.l1 k y0 y1 y2 y3 y4) (crossroadlaw06_PathShapes.l1 (k + 1) y0 y1 y2 y3 y4))
  | 0 => ⟨fun _ _ _ _ _ _ r h => by simp [crossroadlaw06_PathShapes.l0] at h, fun _ _ _ _ _ r h => by simp [crossroadlaw06_PathShapes.l1] at h⟩
  | k + 1 => by
    obtain ⟨ih0, ih1⟩ := crossroadlaw06_PathShapes.mono_l k
    refine ⟨?_, ?_⟩
    · intro y0 y1 y2 y3 y4 y5
      unfold crossroadlaw06_PathShapes.l0
      repeat' first
      | (with_reducible exact ih0 _ _ _ _ _ _)
      | (with_reducible exact ih1 _ _ _ _ _)
      | (with_reducible exact crossroadlaw06_fit.mono _)
      | (with_reducible exact path_Join.mono _ _ _)
      | (with_reducible exact path_Kind.mono _ _)
      | (with_reducible exact path_Pattern.mono _ _)
      | (with_reducible exact path_Shape.mono _ _)
      | (with_reducible exact LeO.refl _)
      | (with_reducible exact LeO.none _)
      | (with_reducible refine LeO.ite ?_ ?_)
      | (with_reducible refine LeO.bind ?_ (fun _ => ?_))
      | exact ih0 _ _ _ _ _ _
      | exact ih1 _ _ _ _ _
      | exact crossroadlaw06_fit.mono _
      | exact path_Join.mono _ _ _
      | exact path_Kind.mono _ _
      | exact path_Pattern.mono _ _
      | exact path_Shape.mono _ _
      | exact LeO.none _
      | refine LeO.ite ?_ ?_
      | refine LeO.bind ?_ (fun _ => ?_)
    · intro y0 y1 y2 y3 y4
      unfold crossroadlaw06_PathShapes.l1
      repeat' first
      | (with_reducible exact ih0 _ _ _ _ _ _)
      | (with_reducible exact ih1 _ _ _ _ _)
      | (with_reducible exact crossroadlaw06_fit.mono _)
      | (with_reducible exact path_Join.mono _ _ _)
      | (with_reducible exact path_Kind.mono _ _)
      | (with_reducible exact path_Pattern.mono _ _)
      | (with_reducible exact path_Shape.mono _ _)
      | (with_reducible exact LeO.refl _)
      | (with_reducible exact LeO.none _)
      | (with_reducible refine LeO.ite ?_ ?_)
      | (with_reducible refine LeO.bind ?_ (fun _ => ?_))
      | exact ih0 _ _ _ _ _ _
      | exact ih1 _ _ _ _ _
      | exact crossroadlaw06_fit.mono _
      | exact path_Join.mono _ _ _
      | exact path_Kind.mono _ _
      | exact path_Pattern.mono _ _
      | exact path_Shape.mono _ _
      | exact LeO.none _
      | refine LeO.ite ?_ ?_
      | refine LeO.bind ?_ (fun _ => ?_)
theorem crossroadlaw06_PathShapes.mono : ∀ a0 a1 k, LeO (crossroadlaw06_PathShapes.f k a0 a1) (crossroadlaw06_PathShapes.f (k + 1) a0 a1) := by
  intro a0 a1 k
  obtain ⟨ih0, ih1⟩ := crossroadlaw06_PathShapes.mono_l k
  unfold crossroadlaw06_PathShapes.f
  repeat' first
      | (with_reducible exact ih0 _ _ _ _ _ _)
      | (with_reducible exact ih1 _ _ _ _ _)
      | (with_reducible exact crossroadlaw06_fit.mono _)
      | (with_reducible exact path_Join.mono _ _ _)
      | (with_reducible exact path_Kind.mono _ _)
      | (with_reducible exact path_Pattern.mono _ _)
      | (with_reducible exact path_Shape.mono _ _)
      | (with_reducible exact LeO.refl _)
      | (with_reducible exact LeO.none _)
      | (with_reducible refine LeO.ite ?_ ?_)
      | (with_reducible refine LeO.bind ?_ (fun _ => ?_))
      | exact ih0 _ _ _ _ _ _
      | exact ih1 _ _ _ _ _
      | exact crossroadlaw06_fit.mono _
      | exact path_Join.mono _ _ _
      | exact path_Kind.mono _ _
      | exact path_Pattern.mono _ _
      | exact path_Shape.mono _ _
      | exact LeO.none _
      | refine LeO.ite ?_ ?_
      | refine LeO.bind ?_ (fun _ => ?_)
set_option maxHeartbeats 8000000 in
set_option maxRecDepth 100000 in
theorem crossroadlaw06_PathShapes.calls (k : Nat) (a0 : ByteArray) (a1 : Int) (r : Bool) (w : World) (h : crossroadlaw06_PathShapes.f k a0 a1 = some r) :
    Calls Try.prog 6 #[.string a0, .int .i64 a1] w fun e w' => e = .returned (.bool r) ∧ Below w.heap.size w w' := by
  have HB := Aside0.mk (Below.refl w.heap.size w)
  have H : ((crossroadlaw06_fit.f k).bind fun t200 => (if t200 = true then ((crossroadlaw06_light.f a0).bind fun t201 => (if t201 = true then ((path_Pattern.f k a0).bind fun bt202 => (if bt202.2 = true then (crossroadlaw06_PathShapes.l0 k a1 bt202.1 (⟨#[]⟩ : ByteArray) bt202.1 (bt202.1.length : Int) 0) else (some true))) else (some true))) else (some false))) = some r := h
  clear h
  replace H := Option.bind_eq_some_iff.mp H
  obtain ⟨t200, A30, H⟩ := H
  replace H : (if t200 = true then ((crossroadlaw06_light.f a0).bind fun t201 => (if t201 = true then ((path_Pattern.f k a0).bind fun bt202 => (if bt202.2 = true then (crossroadlaw06_PathShapes.l0 k a1 bt202.1 (⟨#[]⟩ : ByteArray) bt202.1 (bt202.1.length : Int) 0) else (some true))) else (some true))) else (some false)) = some r := H
  have A3 := Aside0.mk A30
  clear A30
  by_cases c4 : t200 = true
  · subst c4
    have H1 : ((crossroadlaw06_light.f a0).bind fun t201 => (if t201 = true then ((path_Pattern.f k a0).bind fun bt202 => (if bt202.2 = true then (crossroadlaw06_PathShapes.l0 k a1 bt202.1 (⟨#[]⟩ : ByteArray) bt202.1 (bt202.1.length : Int) 0) else (some true))) else (some true))) = some r := by rw [if_pos rfl] at H; exact H
    clear H
    have H := H1
    clear H1
    replace H := Option.bind_eq_some_iff.mp H
    obtain ⟨t201, A50, H⟩ := H
    replace H : (if t201 = true then ((path_Pattern.f k a0).bind fun bt202 => (if bt202.2 = true then (crossroadlaw06_PathShapes.l0 k a1 bt202.1 (⟨#[]⟩ : ByteArray) bt202.1 (bt202.1.length : Int) 0) else (some true))) else (some true)) = some r := H
    have A5 := Aside0.mk A50
    clear A50
    by_cases c6 : t201 = true
    · subst c6
      have H1 : ((path_Pattern.f k a0).bind fun bt202 => (if bt202.2 = true then (crossroadlaw06_PathShapes.l0 k a1 bt202.1 (⟨#[]⟩ : ByteArray) bt202.1 (bt202.1.length : Int) 0) else (some true))) = some r := by rw [if_pos rfl] at H; exact H
      clear H
      have H := H1
      clear H1
      replace H := Option.bind_eq_some_iff.mp H
      obtain ⟨⟨t202, t203⟩, A70, H⟩ := H
      replace H : (if t203 = true then (crossroadlaw06_PathShapes.l0 k a1 t202 (⟨#[]⟩ : ByteArray) t202 (t202.length : Int) 0) else (some true)) = some r := H
      have A7 := Aside0.mk A70
      clear A70
      by_cases c8 : t203 = true
      · subst c8
        have H1 : (crossroadlaw06_PathShapes.l0 k a1 t202 (⟨#[]⟩ : ByteArray) t202 (t202.length : Int) 0) = some r := by rw [if_pos rfl] at H; exact H
        clear H
        have H := H1
        clear H1
        have H' := Aside0.mk H
        clear H
        go_enter Try.func6, Try.ntmps6
        go_wp2_with (first | ((with_reducible refine gate_callee (f := 9) rfl ?_); refine goesL_ (some 13) rfl rfl Try.func9 (by kernel_rfl) rfl #[] rfl (by (try simp only [List.map_toArray, List.map_cons, List.map_nil]); first | done | rfl | (simp only [List.length_drop, List.length_take]; rfl)) ?_; (with_reducible refine (crossroadlaw06_fit.calls k  true _ A3.out).mono ?_); rintro e w9 ⟨rfl, hb⟩; refine ⟨_, rfl, ?_⟩; have n0_ := Aside0.mk (below_step (by repeat (first | (with_reducible first | exact HB.out | apply below_alloc | apply pw_below_drewN | apply below_drew1) | exact HB.out)) hb); clear HB; have HB := n0_; clear n0_; (try clear hb); (try clear hb2); (try clear hk); (try clear hi)) | ((with_reducible refine gate_callee (f := 10) rfl ?_); refine goesL_ (some 16) rfl rfl Try.func10 (by kernel_rfl) rfl #[.string a0] rfl (by (try simp only [List.map_toArray, List.map_cons, List.map_nil]); first | done | rfl | (simp only [List.length_drop, List.length_take]; rfl)) ?_; (with_reducible refine (crossroadlaw06_light.calls a0 true _ A5.out).mono ?_); rintro e w' ⟨rfl, ⟨nd, rfl⟩⟩; refine ⟨_, rfl, ?_⟩) | ((with_reducible refine gate_callee (f := 13) rfl ?_); refine goesL_ (some 20) rfl rfl Try.func13 (by kernel_rfl) rfl #[.string a0] rfl (by (try simp only [List.map_toArray, List.map_cons, List.map_nil]); first | done | rfl | (simp only [List.length_drop, List.length_take]; rfl)) ?_; (with_reducible refine (path_Pattern.calls k a0 t202 true _ A7.out).mono ?_); rintro e w10 ⟨v204, rfl, ho0, hb⟩; refine ⟨_, rfl, ?_⟩; have n0_ := Aside0.mk (Kd.R_lower ho0 (below_size (by repeat (first | (with_reducible first | exact HB.out | apply below_alloc | apply pw_below_drewN | apply below_drew1) | exact HB.out)))); have n1_ := Aside0.mk (below_step (by repeat (first | (with_reducible first | exact HB.out | apply below_alloc | apply pw_below_drewN | apply below_drew1) | exact HB.out)) hb); clear HB; have HO205 := n0_; have HB := n1_; clear n0_ n1_; (try clear hb); (try clear hb2); (try clear hk); (try clear hi); (try clear ho0); obtain ⟨Ao11, co11, eo11⟩ := Kd.R_slice HO205.out; subst eo11))
        go_loopg [7, 27] k (fun kq v7 v27 w' => ∃ (x7_1 : ByteArray) (x27_1 : Int), v7 = .string x7_1 ∧ v27 = .int .i64 x27_1 ∧ Aside0 (crossroadlaw06_PathShapes.l0 kq a1 t202 x7_1 t202 (t202.length : Int) x27_1 = some r) ∧ Aside0 (kq ≤ k) ∧ Aside0 (Kd.R Kd.string 9 w' w.heap.size (fun _ => True) (.slice Ao11 t202.length co11) t202) ∧ Aside0 (Kd.R Kd.string 9 w' w.heap.size (fun _ => True) (.slice Ao11 t202.length co11) t202) ∧ Aside0 (Below w.heap.size w w'))
        case atStart => exact ⟨((⟨#[]⟩ : ByteArray)), (0), (by first | rfl | (simp; done) | (simp [*]; done)), (by first | rfl | (simp; done) | (simp [*]; done)), H', ⟨Nat.le_refl _⟩, ⟨by (with_reducible repeat (first | apply Kd.R_alloc | apply Kd.R_drewN | apply Kd.R_drew)); exact HO205.out⟩, ⟨by (with_reducible repeat (first | apply Kd.R_alloc | apply Kd.R_drewN | apply Kd.R_drew)); exact HO205.out⟩, ⟨by repeat (first | (with_reducible first | exact HB.out | apply below_alloc | apply pw_below_drewN | apply below_drew1) | exact HB.out)⟩⟩
        case round =>
          clear H'
          try clear c1
          try clear p2
          try clear c4
          try clear c6
          try clear c8
          try clear c9
          try clear c10
          obtain ⟨x7_1, x27_1, rfl, rfl, HA, HK1, HO_5, HO_25, HB⟩ := hrel
          cases gk with
          | zero => exact absurd HA.out (by simp [crossroadlaw06_PathShapes.l0])
          | succ k1 =>
            have H := HA.out
            clear HA
            simp only [crossroadlaw06_PathShapes.l0] at H
            by_cases c12 : x27_1 < (t202.length : Int)
            · rw [if_pos c12] at H
              have c12b0 : decide (x27_1 < (t202.length : Int)) = true := decide_eq_true c12
              clear c12
              by_cases c13 : 0 ≤ x27_1
              · rw [if_pos c13] at H
                have c13b0 : decide (0 ≤ x27_1) = true := decide_eq_true c13
                clear c13
                by_cases c14 : x27_1 < (t202.length : Int)
                · rw [if_pos c14] at H
                  have c14b0 : decide (x27_1 < (t202.length : Int)) = true := decide_eq_true c14
                  clear c14
                  by_cases c15 : 0 < ((rdOf ByteArray.empty t202 x27_1).size : Int)
                  · rw [if_pos c15] at H
                    have c15b0 : decide (0 < ((rdOf ByteArray.empty t202 x27_1).size : Int)) = true := decide_eq_true c15
                    have c15b1 : decide (0 < (rdOf ByteArray.empty t202 x27_1).size) = true := decide_eq_true (by omega)
                    clear c15
                    by_cases c17 : (bt (rdOf ByteArray.empty t202 x27_1) 0) = 58
                    · rw [if_pos c17] at H
                      have c17b0 : ((bt (rdOf ByteArray.empty t202 x27_1) 0) == 58) = true := beq_iff_eq.mpr c17
                      have c17b1 : ((bt (rdOf ByteArray.empty t202 x27_1) 0) != 58) = false := bne_eq_false_iff_eq.mpr c17
                      clear c17
                      by_cases c18 : x7_1.size + 2 ≤ 9223372036854775807
                      · rw [if_pos c18] at H
                        have c18b0 := eq_true c18
                        have c18b1 : decide (x7_1.size + 2 ≤ 9223372036854775807) = true := decide_eq_true c18
                        try have c18b2 : (9223372036854775807 < x7_1.size + 2) = False := eq_false (Nat.not_lt.2 c18)
                        replace H := Option.bind_eq_some_iff.mp H
                        obtain ⟨t207, A190, H⟩ := H
                        replace H : (if t207 = 1 then (crossroadlaw06_PathShapes.l0 k1 a1 t202 (x7_1 ++ (⟨#[47, 58]⟩ : ByteArray)) t202 (t202.length : Int) (wrap64 (x27_1 + 1))) else (some false)) = some r := H
                        have A19 := Aside0.mk A190
                        clear A190
                        by_cases c20 : t207 = 1
                        · rw [if_pos c20] at H
                          have c20b0 : (t207 == 1) = true := beq_iff_eq.mpr c20
                          have c20b1 : (t207 != 1) = false := bne_eq_false_iff_eq.mpr c20
                          clear c20
                          have H' := Aside0.mk H
                          clear H
                          have p206 : 0 ≤ (x27_1 : Int) := of_decide_eq_true (by first | (with_reducible assumption) | assumption)
                          have q206 : x27_1 < (t202.length : Int) := of_decide_eq_true (by first | (with_reducible assumption) | assumption)
                          obtain ⟨ad206, e206, hx206_0⟩ := Kd.at_string (Kd.R_reads' HO_25.out).2.2 x27_1 p206 q206
                          cases e206
                          replace p206 := eq_true p206
                          replace q206 := eq_true q206
                          have p16 : 0 ≤ (0 : Int) := (by omega)
                          have q16 : 0 < (rdOf ByteArray.empty t202 x27_1).size := (by have : (0 : Int) < ((rdOf ByteArray.empty t202 x27_1).size : Int) := of_decide_eq_true (by first | (with_reducible assumption) | assumption); omega)
                          have hx16 : ∀ h : 0 < (rdOf ByteArray.empty t202 x27_1).size, (((rdOf ByteArray.empty t202 x27_1)[0]'h).toNat : Int) = bt (rdOf ByteArray.empty t202 x27_1) 0 := bt_at (rdOf ByteArray.empty t202 x27_1) 0
                          clear p16
                          have qi16 : (0 < ((rdOf ByteArray.empty t202 x27_1).size : Int)) = True := eq_true (of_decide_eq_true (by first | (with_reducible assumption) | assumption))
                          replace q16 := eq_true q16
                          go_wp2_with (first | ((with_reducible refine gate_callee (f := 16) rfl ?_); refine goesL_ (some 46) rfl rfl Try.func16 (by kernel_rfl) rfl #[.string (rdOf ByteArray.empty t202 x27_1)] rfl (by (try simp only [List.map_toArray, List.map_cons, List.map_nil]); first | done | rfl | (simp only [List.length_drop, List.length_take]; rfl)) ?_; (with_reducible refine (path_Kind.calls k1 (rdOf ByteArray.empty t202 x27_1) t207 _ A19.out).mono ?_); rintro e w' ⟨rfl, ⟨nd, rfl⟩⟩; refine ⟨_, rfl, ?_⟩))
                          go_roundg k1
                          case measure => have := HK1.out; omega
                          case rel => exact ⟨(x7_1 ++ (⟨#[47, 58]⟩ : ByteArray)), (wrap64 (x27_1 + 1)), (by first | rfl | (simp; done) | (simp [*]; done)), (by first | rfl | (simp; done) | (simp [*]; done)), H', ⟨by have := HK1.out; omega⟩, ⟨by (with_reducible repeat (first | apply Kd.R_alloc | apply Kd.R_drewN | apply Kd.R_drew)); exact HO_5.out⟩, ⟨by (with_reducible repeat (first | apply Kd.R_alloc | apply Kd.R_drewN | apply Kd.R_drew)); exact HO_25.out⟩, ⟨by repeat (first | (with_reducible first | exact HB.out | apply below_alloc | apply pw_below_drewN | apply below_drew1) | exact HB.out)⟩⟩
                        · rw [if_neg c20] at H
                          have c20b0 : (t207 == 1) = false := beq_eq_false_iff_ne.mpr c20
                          have c20b1 : (t207 != 1) = true := bne_iff_ne.mpr c20
                          obtain rfl := Option.some.inj H
                          have p206 : 0 ≤ (x27_1 : Int) := of_decide_eq_true (by first | (with_reducible assumption) | assumption)
                          have q206 : x27_1 < (t202.length : Int) := of_decide_eq_true (by first | (with_reducible assumption) | assumption)
                          obtain ⟨ad206, e206, hx206_0⟩ := Kd.at_string (Kd.R_reads' HO_25.out).2.2 x27_1 p206 q206
                          cases e206
                          replace p206 := eq_true p206
                          replace q206 := eq_true q206
                          have p16 : 0 ≤ (0 : Int) := (by omega)
                          have q16 : 0 < (rdOf ByteArray.empty t202 x27_1).size := (by have : (0 : Int) < ((rdOf ByteArray.empty t202 x27_1).size : Int) := of_decide_eq_true (by first | (with_reducible assumption) | assumption); omega)
                          have hx16 : ∀ h : 0 < (rdOf ByteArray.empty t202 x27_1).size, (((rdOf ByteArray.empty t202 x27_1)[0]'h).toNat : Int) = bt (rdOf ByteArray.empty t202 x27_1) 0 := bt_at (rdOf ByteArray.empty t202 x27_1) 0
                          clear p16
                          have qi16 : (0 < ((rdOf ByteArray.empty t202 x27_1).size : Int)) = True := eq_true (of_decide_eq_true (by first | (with_reducible assumption) | assumption))
                          replace q16 := eq_true q16
                          go_wp2_with (first | ((with_reducible refine gate_callee (f := 16) rfl ?_); refine goesL_ (some 46) rfl rfl Try.func16 (by kernel_rfl) rfl #[.string (rdOf ByteArray.empty t202 x27_1)] rfl (by (try simp only [List.map_toArray, List.map_cons, List.map_nil]); first | done | rfl | (simp only [List.length_drop, List.length_take]; rfl)) ?_; (with_reducible refine (path_Kind.calls k1 (rdOf ByteArray.empty t202 x27_1) t207 _ A19.out).mono ?_); rintro e w' ⟨rfl, ⟨nd, rfl⟩⟩; refine ⟨_, rfl, ?_⟩))
                          go_ret
                          exact ⟨by first | rfl | (simp [errW_none, errW_some] <;> rfl) | (simp [*, errW_none, errW_some] <;> rfl), by repeat (first | (with_reducible first | exact HB.out | apply below_alloc | apply pw_below_drewN | apply below_drew1) | exact HB.out)⟩
                      · rw [if_neg c18] at H
                        exact absurd H (by simp)
                    · rw [if_neg c17] at H
                      have c17b0 : ((bt (rdOf ByteArray.empty t202 x27_1) 0) == 58) = false := beq_eq_false_iff_ne.mpr c17
                      have c17b1 : ((bt (rdOf ByteArray.empty t202 x27_1) 0) != 58) = true := bne_iff_ne.mpr c17
                      by_cases c21 : (bt (rdOf ByteArray.empty t202 x27_1) 0) = 42
                      · rw [if_pos c21] at H
                        have c21b0 : ((bt (rdOf ByteArray.empty t202 x27_1) 0) == 42) = true := beq_iff_eq.mpr c21
                        have c21b1 : ((bt (rdOf ByteArray.empty t202 x27_1) 0) != 42) = false := bne_eq_false_iff_eq.mpr c21
                        clear c21
                        by_cases c22 : x7_1.size + 2 ≤ 9223372036854775807
                        · rw [if_pos c22] at H
                          have c22b0 := eq_true c22
                          have c22b1 : decide (x7_1.size + 2 ≤ 9223372036854775807) = true := decide_eq_true c22
                          try have c22b2 : (9223372036854775807 < x7_1.size + 2) = False := eq_false (Nat.not_lt.2 c22)
                          replace H := Option.bind_eq_some_iff.mp H
                          obtain ⟨t208, A230, H⟩ := H
                          replace H : (if t208 = 2 then (crossroadlaw06_PathShapes.l0 k1 a1 t202 (x7_1 ++ (⟨#[47, 42]⟩ : ByteArray)) t202 (t202.length : Int) (wrap64 (x27_1 + 1))) else (some false)) = some r := H
                          have A23 := Aside0.mk A230
                          clear A230
                          by_cases c24 : t208 = 2
                          · rw [if_pos c24] at H
                            have c24b0 : (t208 == 2) = true := beq_iff_eq.mpr c24
                            have c24b1 : (t208 != 2) = false := bne_eq_false_iff_eq.mpr c24
                            clear c24
                            have H' := Aside0.mk H
                            clear H
                            have p206 : 0 ≤ (x27_1 : Int) := of_decide_eq_true (by first | (with_reducible assumption) | assumption)
                            have q206 : x27_1 < (t202.length : Int) := of_decide_eq_true (by first | (with_reducible assumption) | assumption)
                            obtain ⟨ad206, e206, hx206_0⟩ := Kd.at_string (Kd.R_reads' HO_25.out).2.2 x27_1 p206 q206
                            cases e206
                            replace p206 := eq_true p206
                            replace q206 := eq_true q206
                            have p16 : 0 ≤ (0 : Int) := (by omega)
                            have q16 : 0 < (rdOf ByteArray.empty t202 x27_1).size := (by have : (0 : Int) < ((rdOf ByteArray.empty t202 x27_1).size : Int) := of_decide_eq_true (by first | (with_reducible assumption) | assumption); omega)
                            have hx16 : ∀ h : 0 < (rdOf ByteArray.empty t202 x27_1).size, (((rdOf ByteArray.empty t202 x27_1)[0]'h).toNat : Int) = bt (rdOf ByteArray.empty t202 x27_1) 0 := bt_at (rdOf ByteArray.empty t202 x27_1) 0
                            clear p16
                            have qi16 : (0 < ((rdOf ByteArray.empty t202 x27_1).size : Int)) = True := eq_true (of_decide_eq_true (by first | (with_reducible assumption) | assumption))
                            replace q16 := eq_true q16
                            go_wp2_with (first | ((with_reducible refine gate_callee (f := 16) rfl ?_); refine goesL_ (some 46) rfl rfl Try.func16 (by kernel_rfl) rfl #[.string (rdOf ByteArray.empty t202 x27_1)] rfl (by (try simp only [List.map_toArray, List.map_cons, List.map_nil]); first | done | rfl | (simp only [List.length_drop, List.length_take]; rfl)) ?_; (with_reducible refine (path_Kind.calls k1 (rdOf ByteArray.empty t202 x27_1) t208 _ A23.out).mono ?_); rintro e w' ⟨rfl, ⟨nd, rfl⟩⟩; refine ⟨_, rfl, ?_⟩))
                            go_roundg k1
                            case measure => have := HK1.out; omega
                            case rel => exact ⟨(x7_1 ++ (⟨#[47, 42]⟩ : ByteArray)), (wrap64 (x27_1 + 1)), (by first | rfl | (simp; done) | (simp [*]; done)), (by first | rfl | (simp; done) | (simp [*]; done)), H', ⟨by have := HK1.out; omega⟩, ⟨by (with_reducible repeat (first | apply Kd.R_alloc | apply Kd.R_drewN | apply Kd.R_drew)); exact HO_5.out⟩, ⟨by (with_reducible repeat (first | apply Kd.R_alloc | apply Kd.R_drewN | apply Kd.R_drew)); exact HO_25.out⟩, ⟨by repeat (first | (with_reducible first | exact HB.out | apply below_alloc | apply pw_below_drewN | apply below_drew1) | exact HB.out)⟩⟩
                          · rw [if_neg c24] at H
                            have c24b0 : (t208 == 2) = false := beq_eq_false_iff_ne.mpr c24
                            have c24b1 : (t208 != 2) = true := bne_iff_ne.mpr c24
                            obtain rfl := Option.some.inj H
                            have p206 : 0 ≤ (x27_1 : Int) := of_decide_eq_true (by first | (with_reducible assumption) | assumption)
                            have q206 : x27_1 < (t202.length : Int) := of_decide_eq_true (by first | (with_reducible assumption) | assumption)
                            obtain ⟨ad206, e206, hx206_0⟩ := Kd.at_string (Kd.R_reads' HO_25.out).2.2 x27_1 p206 q206
                            cases e206
                            replace p206 := eq_true p206
                            replace q206 := eq_true q206
                            have p16 : 0 ≤ (0 : Int) := (by omega)
                            have q16 : 0 < (rdOf ByteArray.empty t202 x27_1).size := (by have : (0 : Int) < ((rdOf ByteArray.empty t202 x27_1).size : Int) := of_decide_eq_true (by first | (with_reducible assumption) | assumption); omega)
                            have hx16 : ∀ h : 0 < (rdOf ByteArray.empty t202 x27_1).size, (((rdOf ByteArray.empty t202 x27_1)[0]'h).toNat : Int) = bt (rdOf ByteArray.empty t202 x27_1) 0 := bt_at (rdOf ByteArray.empty t202 x27_1) 0
                            clear p16
                            have qi16 : (0 < ((rdOf ByteArray.empty t202 x27_1).size : Int)) = True := eq_true (of_decide_eq_true (by first | (with_reducible assumption) | assumption))
                            replace q16 := eq_true q16
                            go_wp2_with (first | ((with_reducible refine gate_callee (f := 16) rfl ?_); refine goesL_ (some 46) rfl rfl Try.func16 (by kernel_rfl) rfl #[.string (rdOf ByteArray.empty t202 x27_1)] rfl (by (try simp only [List.map_toArray, List.map_cons, List.map_nil]); first | done | rfl | (simp only [List.length_drop, List.length_take]; rfl)) ?_; (with_reducible refine (path_Kind.calls k1 (rdOf ByteArray.empty t202 x27_1) t208 _ A23.out).mono ?_); rintro e w' ⟨rfl, ⟨nd, rfl⟩⟩; refine ⟨_, rfl, ?_⟩))
                            go_ret
                            exact ⟨by first | rfl | (simp [errW_none, errW_some] <;> rfl) | (simp [*, errW_none, errW_some] <;> rfl), by repeat (first | (with_reducible first | exact HB.out | apply below_alloc | apply pw_below_drewN | apply below_drew1) | exact HB.out)⟩
                        · rw [if_neg c22] at H
                          exact absurd H (by simp)
                      · rw [if_neg c21] at H
                        have c21b0 : ((bt (rdOf ByteArray.empty t202 x27_1) 0) == 42) = false := beq_eq_false_iff_ne.mpr c21
                        have c21b1 : ((bt (rdOf ByteArray.empty t202 x27_1) 0) != 42) = true := bne_iff_ne.mpr c21
                        by_cases c25 : 1 + (rdOf ByteArray.empty t202 x27_1).size ≤ 9223372036854775807
                        · rw [if_pos c25] at H
                          have c25b0 := eq_true c25
                          have c25b1 : decide (1 + (rdOf ByteArray.empty t202 x27_1).size ≤ 9223372036854775807) = true := decide_eq_true c25
                          try have c25b2 : (9223372036854775807 < 1 + (rdOf ByteArray.empty t202 x27_1).size) = False := eq_false (Nat.not_lt.2 c25)
                          by_cases c26 : x7_1.size + ((⟨#[47]⟩ : ByteArray) ++ (rdOf ByteArray.empty t202 x27_1)).size ≤ 9223372036854775807
                          · rw [if_pos c26] at H
                            have c26b0 := eq_true c26
                            have c26b1 : decide (x7_1.size + ((⟨#[47]⟩ : ByteArray) ++ (rdOf ByteArray.empty t202 x27_1)).size ≤ 9223372036854775807) = true := decide_eq_true c26
                            try have c26b2 : (9223372036854775807 < x7_1.size + ((⟨#[47]⟩ : ByteArray) ++ (rdOf ByteArray.empty t202 x27_1)).size) = False := eq_false (Nat.not_lt.2 c26)
                            try have c26b3 : (9223372036854775807 < x7_1.size + 1 + (rdOf ByteArray.empty t202 x27_1).size) = False := eq_false (by have h_ := c26; simp only [ByteArray.size_append] at h_; have e0_ : (⟨#[47]⟩ : ByteArray).size = 1 := rfl; omega)
                            replace H := Option.bind_eq_some_iff.mp H
                            obtain ⟨t209, A270, H⟩ := H
                            replace H : (if t209 = 0 then (crossroadlaw06_PathShapes.l0 k1 a1 t202 (x7_1 ++ ((⟨#[47]⟩ : ByteArray) ++ (rdOf ByteArray.empty t202 x27_1))) t202 (t202.length : Int) (wrap64 (x27_1 + 1))) else (some false)) = some r := H
                            have A27 := Aside0.mk A270
                            clear A270
                            by_cases c28 : t209 = 0
                            · rw [if_pos c28] at H
                              have c28b0 : (t209 == 0) = true := beq_iff_eq.mpr c28
                              have c28b1 : (t209 != 0) = false := bne_eq_false_iff_eq.mpr c28
                              clear c28
                              have H' := Aside0.mk H
                              clear H
                              have p206 : 0 ≤ (x27_1 : Int) := of_decide_eq_true (by first | (with_reducible assumption) | assumption)
                              have q206 : x27_1 < (t202.length : Int) := of_decide_eq_true (by first | (with_reducible assumption) | assumption)
                              obtain ⟨ad206, e206, hx206_0⟩ := Kd.at_string (Kd.R_reads' HO_25.out).2.2 x27_1 p206 q206
                              cases e206
                              replace p206 := eq_true p206
                              replace q206 := eq_true q206
                              have p16 : 0 ≤ (0 : Int) := (by omega)
                              have q16 : 0 < (rdOf ByteArray.empty t202 x27_1).size := (by have : (0 : Int) < ((rdOf ByteArray.empty t202 x27_1).size : Int) := of_decide_eq_true (by first | (with_reducible assumption) | assumption); omega)
                              have hx16 : ∀ h : 0 < (rdOf ByteArray.empty t202 x27_1).size, (((rdOf ByteArray.empty t202 x27_1)[0]'h).toNat : Int) = bt (rdOf ByteArray.empty t202 x27_1) 0 := bt_at (rdOf ByteArray.empty t202 x27_1) 0
                              clear p16
                              have qi16 : (0 < ((rdOf ByteArray.empty t202 x27_1).size : Int)) = True := eq_true (of_decide_eq_true (by first | (with_reducible assumption) | assumption))
                              replace q16 := eq_true q16
                              go_wp2_with (first | ((with_reducible refine gate_callee (f := 16) rfl ?_); refine goesL_ (some 46) rfl rfl Try.func16 (by kernel_rfl) rfl #[.string (rdOf ByteArray.empty t202 x27_1)] rfl (by (try simp only [List.map_toArray, List.map_cons, List.map_nil]); first | done | rfl | (simp only [List.length_drop, List.length_take]; rfl)) ?_; (with_reducible refine (path_Kind.calls k1 (rdOf ByteArray.empty t202 x27_1) t209 _ A27.out).mono ?_); rintro e w' ⟨rfl, ⟨nd, rfl⟩⟩; refine ⟨_, rfl, ?_⟩))
                              go_roundg k1
                              case measure => have := HK1.out; omega
                              case rel => exact ⟨(x7_1 ++ ((⟨#[47]⟩ : ByteArray) ++ (rdOf ByteArray.empty t202 x27_1))), (wrap64 (x27_1 + 1)), (by first | rfl | (simp; done) | (simp [*]; done)), (by first | rfl | (simp; done) | (simp [*]; done)), H', ⟨by have := HK1.out; omega⟩, ⟨by (with_reducible repeat (first | apply Kd.R_alloc | apply Kd.R_drewN | apply Kd.R_drew)); exact HO_5.out⟩, ⟨by (with_reducible repeat (first | apply Kd.R_alloc | apply Kd.R_drewN | apply Kd.R_drew)); exact HO_25.out⟩, ⟨by repeat (first | (with_reducible first | exact HB.out | apply below_alloc | apply pw_below_drewN | apply below_drew1) | exact HB.out)⟩⟩
                            · rw [if_neg c28] at H
                              have c28b0 : (t209 == 0) = false := beq_eq_false_iff_ne.mpr c28
                              have c28b1 : (t209 != 0) = true := bne_iff_ne.mpr c28
                              obtain rfl := Option.some.inj H
                              have p206 : 0 ≤ (x27_1 : Int) := of_decide_eq_true (by first | (with_reducible assumption) | assumption)
                              have q206 : x27_1 < (t202.length : Int) := of_decide_eq_true (by first | (with_reducible assumption) | assumption)
                              obtain ⟨ad206, e206, hx206_0⟩ := Kd.at_string (Kd.R_reads' HO_25.out).2.2 x27_1 p206 q206
                              cases e206
                              replace p206 := eq_true p206
                              replace q206 := eq_true q206
                              have p16 : 0 ≤ (0 : Int) := (by omega)
                              have q16 : 0 < (rdOf ByteArray.empty t202 x27_1).size := (by have : (0 : Int) < ((rdOf ByteArray.empty t202 x27_1).size : Int) := of_decide_eq_true (by first | (with_reducible assumption) | assumption); omega)
                              have hx16 : ∀ h : 0 < (rdOf ByteArray.empty t202 x27_1).size, (((rdOf ByteArray.empty t202 x27_1)[0]'h).toNat : Int) = bt (rdOf ByteArray.empty t202 x27_1) 0 := bt_at (rdOf ByteArray.empty t202 x27_1) 0
                              clear p16
                              have qi16 : (0 < ((rdOf ByteArray.empty t202 x27_1).size : Int)) = True := eq_true (of_decide_eq_true (by first | (with_reducible assumption) | assumption))
                              replace q16 := eq_true q16
                              go_wp2_with (first | ((with_reducible refine gate_callee (f := 16) rfl ?_); refine goesL_ (some 46) rfl rfl Try.func16 (by kernel_rfl) rfl #[.string (rdOf ByteArray.empty t202 x27_1)] rfl (by (try simp only [List.map_toArray, List.map_cons, List.map_nil]); first | done | rfl | (simp only [List.length_drop, List.length_take]; rfl)) ?_; (with_reducible refine (path_Kind.calls k1 (rdOf ByteArray.empty t202 x27_1) t209 _ A27.out).mono ?_); rintro e w' ⟨rfl, ⟨nd, rfl⟩⟩; refine ⟨_, rfl, ?_⟩))
                              go_ret
                              exact ⟨by first | rfl | (simp [errW_none, errW_some] <;> rfl) | (simp [*, errW_none, errW_some] <;> rfl), by repeat (first | (with_reducible first | exact HB.out | apply below_alloc | apply pw_below_drewN | apply below_drew1) | exact HB.out)⟩
                          · rw [if_neg c26] at H
                            exact absurd H (by simp)
                        · rw [if_neg c25] at H
                          exact absurd H (by simp)
                  · rw [if_neg c15] at H
                    exact absurd H (by simp)
                · rw [if_neg c14] at H
                  exact absurd H (by simp)
              · rw [if_neg c13] at H
                exact absurd H (by simp)
            · rw [if_neg c12] at H
              have c12b0 : decide (x27_1 < (t202.length : Int)) = false := decide_eq_false c12
              clear c12
              have H' := Aside0.mk H
              clear H
              go_wp2
              go_loopg [11, 12] k1 (fun kq v11 v12 w' => ∃ (x11_2 : ByteArray) (x12_2 : Int), v11 = .string x11_2 ∧ v12 = .int .i64 x12_2 ∧ Aside0 (crossroadlaw06_PathShapes.l1 kq (Go.bits .and .i64 a1 15) t202 x7_1 x11_2 x12_2 = some r) ∧ Aside0 (kq ≤ k1) ∧ Aside0 (Kd.R Kd.string 9 w' w.heap.size (fun _ => True) (.slice Ao11 t202.length co11) t202) ∧ Aside0 (Below w.heap.size w w'))
              case atStart => exact ⟨((⟨#[]⟩ : ByteArray)), (Go.bits .and .i64 a1 15), (by first | rfl | (simp; done) | (simp [*]; done)), (by first | rfl | (simp; done) | (simp [*]; done)), H', ⟨Nat.le_refl _⟩, ⟨by (with_reducible repeat (first | apply Kd.R_alloc | apply Kd.R_drewN | apply Kd.R_drew)); exact HO_5.out⟩, ⟨by repeat (first | (with_reducible first | exact HB.out | apply below_alloc | apply pw_below_drewN | apply below_drew1) | exact HB.out)⟩⟩
              case round =>
                clear H'
                try clear c1
                try clear p1
                try clear q1
                try clear hx1
                try clear qi1
                try clear c2
                try clear p2
                try clear q2
                try clear hx2
                try clear c4
                try clear c6
                try clear p6
                try clear c8
                try clear c9
                try clear c10
                try clear c12
                try clear c12b0
                try clear c13
                try clear c13b0
                try clear c14
                try clear c14b0
                try clear c15
                try clear c15b0
                try clear c15b1
                try clear c16
                try clear p16
                try clear q16
                try clear hx16
                try clear qi16
                try clear c17
                try clear c17b0
                try clear c17b1
                try clear c18
                try clear c18b0
                try clear c18b1
                try clear c18b2
                try clear c20
                try clear c20b0
                try clear c20b1
                try clear p20
                try clear q20
                try clear hx20
                try clear c21
                try clear c21b0
                try clear c21b1
                try clear c22
                try clear c22b0
                try clear c22b1
                try clear c22b2
                try clear c24
                try clear c24b0
                try clear c24b1
                try clear c25
                try clear c25b0
                try clear c25b1
                try clear c25b2
                try clear c26
                try clear c26b0
                try clear c26b1
                try clear c26b2
                try clear c28
                try clear c28b0
                try clear c28b1
                try clear hx206_0
                try clear p16
                try clear p2
                try clear p206
                try clear q16
                try clear q206
                obtain ⟨x11_2, x12_2, rfl, rfl, HA, HK2, HO_5, HB⟩ := hrel
                cases gk with
                | zero => exact absurd HA.out (by simp [crossroadlaw06_PathShapes.l1])
                | succ k2 =>
                  have H := HA.out
                  clear HA
                  simp only [crossroadlaw06_PathShapes.l1] at H
                  by_cases c29 : x12_2 < (t202.length : Int)
                  · rw [if_pos c29] at H
                    have c29b0 : decide (x12_2 < (t202.length : Int)) = true := decide_eq_true c29
                    clear c29
                    by_cases c30 : x12_2 > (Go.bits .and .i64 a1 15)
                    · rw [if_pos c30] at H
                      have c30b0 : decide ((Go.bits .and .i64 a1 15) < x12_2) = true := decide_eq_true c30
                      clear c30
                      by_cases c31 : x11_2.size + 1 ≤ 9223372036854775807
                      · rw [if_pos c31] at H
                        have c31b0 := eq_true c31
                        have c31b1 : decide (x11_2.size + 1 ≤ 9223372036854775807) = true := decide_eq_true c31
                        try have c31b2 : (9223372036854775807 < x11_2.size + 1) = False := eq_false (Nat.not_lt.2 c31)
                        by_cases c32 : 0 ≤ x12_2
                        · rw [if_pos c32] at H
                          have c32b0 : decide (0 ≤ x12_2) = true := decide_eq_true c32
                          clear c32
                          by_cases c33 : (x11_2 ++ (⟨#[47]⟩ : ByteArray)).size + (rdOf ByteArray.empty t202 x12_2).size ≤ 9223372036854775807
                          · rw [if_pos c33] at H
                            have c33b0 := eq_true c33
                            have c33b1 : decide ((x11_2 ++ (⟨#[47]⟩ : ByteArray)).size + (rdOf ByteArray.empty t202 x12_2).size ≤ 9223372036854775807) = true := decide_eq_true c33
                            try have c33b2 : (9223372036854775807 < (x11_2 ++ (⟨#[47]⟩ : ByteArray)).size + (rdOf ByteArray.empty t202 x12_2).size) = False := eq_false (Nat.not_lt.2 c33)
                            try have c33b3 : (9223372036854775807 < x11_2.size + 1 + (rdOf ByteArray.empty t202 x12_2).size) = False := eq_false (by have h_ := c33; simp only [ByteArray.size_append] at h_; have e0_ : (⟨#[47]⟩ : ByteArray).size = 1 := rfl; omega)
                            have H' := Aside0.mk H
                            clear H
                            have p210 : 0 ≤ (x12_2 : Int) := of_decide_eq_true (by first | (with_reducible assumption) | assumption)
                            have q210 : x12_2 < (t202.length : Int) := of_decide_eq_true (by first | (with_reducible assumption) | assumption)
                            obtain ⟨ad210, e210, hx210_0⟩ := Kd.at_string (Kd.R_reads' HO_5.out).2.2 x12_2 p210 q210
                            cases e210
                            replace p210 := eq_true p210
                            replace q210 := eq_true q210
                            go_wp2
                            go_roundg k2
                            case measure => have := HK1.out; have := HK2.out; omega
                            case rel => exact ⟨((x11_2 ++ (⟨#[47]⟩ : ByteArray)) ++ (rdOf ByteArray.empty t202 x12_2)), (wrap64 (x12_2 + 1)), (by first | rfl | (simp; done) | (simp [*]; done)), (by first | rfl | (simp; done) | (simp [*]; done)), H', ⟨by have := HK1.out; have := HK2.out; omega⟩, ⟨by (with_reducible repeat (first | apply Kd.R_alloc | apply Kd.R_drewN | apply Kd.R_drew)); exact HO_5.out⟩, ⟨by repeat (first | (with_reducible first | exact HB.out | apply below_alloc | apply pw_below_drewN | apply below_drew1) | exact HB.out)⟩⟩
                          · rw [if_neg c33] at H
                            exact absurd H (by simp)
                        · rw [if_neg c32] at H
                          exact absurd H (by simp)
                      · rw [if_neg c31] at H
                        exact absurd H (by simp)
                    · rw [if_neg c30] at H
                      have c30b0 : decide ((Go.bits .and .i64 a1 15) < x12_2) = false := decide_eq_false c30
                      clear c30
                      by_cases c34 : 0 ≤ x12_2
                      · rw [if_pos c34] at H
                        have c34b0 : decide (0 ≤ x12_2) = true := decide_eq_true c34
                        clear c34
                        by_cases c35 : x11_2.size + (rdOf ByteArray.empty t202 x12_2).size ≤ 9223372036854775807
                        · rw [if_pos c35] at H
                          have c35b0 := eq_true c35
                          have c35b1 : decide (x11_2.size + (rdOf ByteArray.empty t202 x12_2).size ≤ 9223372036854775807) = true := decide_eq_true c35
                          try have c35b2 : (9223372036854775807 < x11_2.size + (rdOf ByteArray.empty t202 x12_2).size) = False := eq_false (Nat.not_lt.2 c35)
                          have H' := Aside0.mk H
                          clear H
                          have p211 : 0 ≤ (x12_2 : Int) := of_decide_eq_true (by first | (with_reducible assumption) | assumption)
                          have q211 : x12_2 < (t202.length : Int) := of_decide_eq_true (by first | (with_reducible assumption) | assumption)
                          obtain ⟨ad211, e211, hx211_0⟩ := Kd.at_string (Kd.R_reads' HO_5.out).2.2 x12_2 p211 q211
                          cases e211
                          replace p211 := eq_true p211
                          replace q211 := eq_true q211
                          go_wp2
                          go_roundg k2
                          case measure => have := HK1.out; have := HK2.out; omega
                          case rel => exact ⟨(x11_2 ++ (rdOf ByteArray.empty t202 x12_2)), (wrap64 (x12_2 + 1)), (by first | rfl | (simp; done) | (simp [*]; done)), (by first | rfl | (simp; done) | (simp [*]; done)), H', ⟨by have := HK1.out; have := HK2.out; omega⟩, ⟨by (with_reducible repeat (first | apply Kd.R_alloc | apply Kd.R_drewN | apply Kd.R_drew)); exact HO_5.out⟩, ⟨by repeat (first | (with_reducible first | exact HB.out | apply below_alloc | apply pw_below_drewN | apply below_drew1) | exact HB.out)⟩⟩
                        · rw [if_neg c35] at H
                          exact absurd H (by simp)
                      · rw [if_neg c34] at H
                        exact absurd H (by simp)
                  · rw [if_neg c29] at H
                    have c29b0 : decide (x12_2 < (t202.length : Int)) = false := decide_eq_false c29
                    clear c29
                    replace H := Option.bind_eq_some_iff.mp H
                    obtain ⟨t212, A360, H⟩ := H
                    replace H : (if t212.toList = x7_1.toList then ((path_Join.f k2 t202 (Go.bits .and .i64 a1 15)).bind fun t213 => (if t213.toList = x11_2.toList then ((path_Kind.f k2 (⟨#[]⟩ : ByteArray)).bind fun t214 => (some (t214 == 0))) else (some false))) else (some false)) = some r := H
                    have A36 := Aside0.mk A360
                    clear A360
                    by_cases c37 : t212.toList = x7_1.toList
                    · rw [if_pos c37] at H
                      have c37b0 : (t212.toList == x7_1.toList) = true := beq_iff_eq.mpr c37
                      have c37b1 : (t212.toList != x7_1.toList) = false := bne_eq_false_iff_eq.mpr c37
                      clear c37
                      replace H := Option.bind_eq_some_iff.mp H
                      obtain ⟨t213, A380, H⟩ := H
                      replace H : (if t213.toList = x11_2.toList then ((path_Kind.f k2 (⟨#[]⟩ : ByteArray)).bind fun t214 => (some (t214 == 0))) else (some false)) = some r := H
                      have A38 := Aside0.mk A380
                      clear A380
                      by_cases c39 : t213.toList = x11_2.toList
                      · rw [if_pos c39] at H
                        have c39b0 : (t213.toList == x11_2.toList) = true := beq_iff_eq.mpr c39
                        have c39b1 : (t213.toList != x11_2.toList) = false := bne_eq_false_iff_eq.mpr c39
                        clear c39
                        replace H := Option.bind_eq_some_iff.mp H
                        obtain ⟨t214, A400, H⟩ := H
                        replace H : (some (t214 == 0)) = some r := H
                        have A40 := Aside0.mk A400
                        clear A400
                        obtain rfl := Option.some.inj H
                        go_wp2_with (first | ((with_reducible refine gate_callee (f := 17) rfl ?_); refine goesL_ (some 71) rfl rfl Try.func17 (by kernel_rfl) rfl #[.slice Ao11 t202.length co11] rfl (by (try simp only [List.map_toArray, List.map_cons, List.map_nil]); first | done | rfl | (simp only [List.length_drop, List.length_take]; rfl)) ?_; (with_reducible refine (path_Shape.calls k2 _ _ t202 t212 _ ?side1 ?side2 A36.out).mono ?_); (case side1 => repeat (first | exact (Kd.R_reads' HO_5.out).2.2 | (with_reducible refine Kd.C_alloc ?_ _) | (with_reducible refine Kd.C_drewN ?_ _) | (with_reducible refine Kd.C_drew ?_))); (case side2 => exact (Kd.R_reads' HO_5.out).2.1); rintro e w' ⟨rfl, ⟨nd, rfl⟩⟩; refine ⟨_, rfl, ?_⟩) | (go_at_call 18; (with_reducible refine (path_Join.calls k2 _ _ t202 (Go.bits .and .i64 a1 15) t213 _ ?side1 ?side2 A38.out).mono ?_); (case side1 => repeat (first | exact (Kd.R_reads' HO_5.out).2.2 | (with_reducible refine Kd.C_alloc ?_ _) | (with_reducible refine Kd.C_drewN ?_ _) | (with_reducible refine Kd.C_drew ?_))); (case side2 => exact (Kd.R_reads' HO_5.out).2.1); rintro e w41 ⟨rfl, hb⟩; have n0_ := Aside0.mk (Kd.R_below (by (with_reducible repeat (first | apply Kd.R_alloc | apply Kd.R_drewN | apply Kd.R_drew)); exact HO_5.out) hb); have n1_ := Aside0.mk (below_step (by repeat (first | (with_reducible first | exact HB.out | apply below_alloc | apply pw_below_drewN | apply below_drew1) | exact HB.out)) hb); clear HO_5; clear HB; have HO_5 := n0_; have HB := n1_; clear n0_ n1_; (try clear hb); (try clear hb2); (try clear hk); (try clear hi)) | (go_at_call 16; (with_reducible refine (path_Kind.calls k2 (⟨#[]⟩ : ByteArray) t214 _ A40.out).mono ?_); rintro e w' ⟨rfl, ⟨nd, rfl⟩⟩))
                        go_ret
                        exact ⟨by first | rfl | (simp [errW_none, errW_some] <;> rfl) | (simp [*, errW_none, errW_some] <;> rfl), by repeat (first | (with_reducible first | exact HB.out | apply below_alloc | apply pw_below_drewN | apply below_drew1) | exact HB.out)⟩
                      · rw [if_neg c39] at H
                        have c39b0 : (t213.toList == x11_2.toList) = false := beq_eq_false_iff_ne.mpr c39
                        have c39b1 : (t213.toList != x11_2.toList) = true := bne_iff_ne.mpr c39
                        obtain rfl := Option.some.inj H
                        go_wp2_with (first | ((with_reducible refine gate_callee (f := 17) rfl ?_); refine goesL_ (some 71) rfl rfl Try.func17 (by kernel_rfl) rfl #[.slice Ao11 t202.length co11] rfl (by (try simp only [List.map_toArray, List.map_cons, List.map_nil]); first | done | rfl | (simp only [List.length_drop, List.length_take]; rfl)) ?_; (with_reducible refine (path_Shape.calls k2 _ _ t202 t212 _ ?side1 ?side2 A36.out).mono ?_); (case side1 => repeat (first | exact (Kd.R_reads' HO_5.out).2.2 | (with_reducible refine Kd.C_alloc ?_ _) | (with_reducible refine Kd.C_drewN ?_ _) | (with_reducible refine Kd.C_drew ?_))); (case side2 => exact (Kd.R_reads' HO_5.out).2.1); rintro e w' ⟨rfl, ⟨nd, rfl⟩⟩; refine ⟨_, rfl, ?_⟩) | (go_at_call 18; (with_reducible refine (path_Join.calls k2 _ _ t202 (Go.bits .and .i64 a1 15) t213 _ ?side1 ?side2 A38.out).mono ?_); (case side1 => repeat (first | exact (Kd.R_reads' HO_5.out).2.2 | (with_reducible refine Kd.C_alloc ?_ _) | (with_reducible refine Kd.C_drewN ?_ _) | (with_reducible refine Kd.C_drew ?_))); (case side2 => exact (Kd.R_reads' HO_5.out).2.1); rintro e w42 ⟨rfl, hb⟩; have n0_ := Aside0.mk (Kd.R_below (by (with_reducible repeat (first | apply Kd.R_alloc | apply Kd.R_drewN | apply Kd.R_drew)); exact HO_5.out) hb); have n1_ := Aside0.mk (below_step (by repeat (first | (with_reducible first | exact HB.out | apply below_alloc | apply pw_below_drewN | apply below_drew1) | exact HB.out)) hb); clear HO_5; clear HB; have HO_5 := n0_; have HB := n1_; clear n0_ n1_; (try clear hb); (try clear hb2); (try clear hk); (try clear hi)))
                        go_ret
                        exact ⟨by first | rfl | (simp [errW_none, errW_some] <;> rfl) | (simp [*, errW_none, errW_some] <;> rfl), by repeat (first | (with_reducible first | exact HB.out | apply below_alloc | apply pw_below_drewN | apply below_drew1) | exact HB.out)⟩
                    · rw [if_neg c37] at H
                      have c37b0 : (t212.toList == x7_1.toList) = false := beq_eq_false_iff_ne.mpr c37
                      have c37b1 : (t212.toList != x7_1.toList) = true := bne_iff_ne.mpr c37
                      obtain rfl := Option.some.inj H
                      go_wp2_with (first | ((with_reducible refine gate_callee (f := 17) rfl ?_); refine goesL_ (some 71) rfl rfl Try.func17 (by kernel_rfl) rfl #[.slice Ao11 t202.length co11] rfl (by (try simp only [List.map_toArray, List.map_cons, List.map_nil]); first | done | rfl | (simp only [List.length_drop, List.length_take]; rfl)) ?_; (with_reducible refine (path_Shape.calls k2 _ _ t202 t212 _ ?side1 ?side2 A36.out).mono ?_); (case side1 => repeat (first | exact (Kd.R_reads' HO_5.out).2.2 | (with_reducible refine Kd.C_alloc ?_ _) | (with_reducible refine Kd.C_drewN ?_ _) | (with_reducible refine Kd.C_drew ?_))); (case side2 => exact (Kd.R_reads' HO_5.out).2.1); rintro e w' ⟨rfl, ⟨nd, rfl⟩⟩; refine ⟨_, rfl, ?_⟩))
                      go_ret
                      exact ⟨by first | rfl | (simp [errW_none, errW_some] <;> rfl) | (simp [*, errW_none, errW_some] <;> rfl), by repeat (first | (with_reducible first | exact HB.out | apply below_alloc | apply pw_below_drewN | apply below_drew1) | exact HB.out)⟩
      · replace c8 := Bool.eq_false_iff.mpr c8
        subst c8
        have H1 : (some true) = some r := by rw [if_neg (show ¬ (false = true) by decide)] at H; exact H
        clear H
        have H := H1
        clear H1
        obtain rfl := Option.some.inj H
        go_enter Try.func6, Try.ntmps6
        go_wp2_with (first | ((with_reducible refine gate_callee (f := 9) rfl ?_); refine goesL_ (some 13) rfl rfl Try.func9 (by kernel_rfl) rfl #[] rfl (by (try simp only [List.map_toArray, List.map_cons, List.map_nil]); first | done | rfl | (simp only [List.length_drop, List.length_take]; rfl)) ?_; (with_reducible refine (crossroadlaw06_fit.calls k  true _ A3.out).mono ?_); rintro e w43 ⟨rfl, hb⟩; refine ⟨_, rfl, ?_⟩; have n0_ := Aside0.mk (below_step (by repeat (first | (with_reducible first | exact HB.out | apply below_alloc | apply pw_below_drewN | apply below_drew1) | exact HB.out)) hb); clear HB; have HB := n0_; clear n0_; (try clear hb); (try clear hb2); (try clear hk); (try clear hi)) | ((with_reducible refine gate_callee (f := 10) rfl ?_); refine goesL_ (some 16) rfl rfl Try.func10 (by kernel_rfl) rfl #[.string a0] rfl (by (try simp only [List.map_toArray, List.map_cons, List.map_nil]); first | done | rfl | (simp only [List.length_drop, List.length_take]; rfl)) ?_; (with_reducible refine (crossroadlaw06_light.calls a0 true _ A5.out).mono ?_); rintro e w' ⟨rfl, ⟨nd, rfl⟩⟩; refine ⟨_, rfl, ?_⟩) | ((with_reducible refine gate_callee (f := 13) rfl ?_); refine goesL_ (some 20) rfl rfl Try.func13 (by kernel_rfl) rfl #[.string a0] rfl (by (try simp only [List.map_toArray, List.map_cons, List.map_nil]); first | done | rfl | (simp only [List.length_drop, List.length_take]; rfl)) ?_; (with_reducible refine (path_Pattern.calls k a0 t202 false _ A7.out).mono ?_); rintro e w44 ⟨v204, rfl, ho0, hb⟩; refine ⟨_, rfl, ?_⟩; have n0_ := Aside0.mk (Kd.R_lower ho0 (below_size (by repeat (first | (with_reducible first | exact HB.out | apply below_alloc | apply pw_below_drewN | apply below_drew1) | exact HB.out)))); have n1_ := Aside0.mk (below_step (by repeat (first | (with_reducible first | exact HB.out | apply below_alloc | apply pw_below_drewN | apply below_drew1) | exact HB.out)) hb); clear HB; have HO205 := n0_; have HB := n1_; clear n0_ n1_; (try clear hb); (try clear hb2); (try clear hk); (try clear hi); (try clear ho0)))
        go_ret
        exact ⟨by first | rfl | (simp [errW_none, errW_some] <;> rfl) | (simp [*, errW_none, errW_some] <;> rfl), by repeat (first | (with_reducible first | exact HB.out | apply below_alloc | apply pw_below_drewN | apply below_drew1) | exact HB.out)⟩
    · replace c6 := Bool.eq_false_iff.mpr c6
      subst c6
      have H1 : (some true) = some r := by rw [if_neg (show ¬ (false = true) by decide)] at H; exact H
      clear H
      have H := H1
      clear H1
      obtain rfl := Option.some.inj H
      go_enter Try.func6, Try.ntmps6
      go_wp2_with (first | ((with_reducible refine gate_callee (f := 9) rfl ?_); refine goesL_ (some 13) rfl rfl Try.func9 (by kernel_rfl) rfl #[] rfl (by (try simp only [List.map_toArray, List.map_cons, List.map_nil]); first | done | rfl | (simp only [List.length_drop, List.length_take]; rfl)) ?_; (with_reducible refine (crossroadlaw06_fit.calls k  true _ A3.out).mono ?_); rintro e w45 ⟨rfl, hb⟩; refine ⟨_, rfl, ?_⟩; have n0_ := Aside0.mk (below_step (by repeat (first | (with_reducible first | exact HB.out | apply below_alloc | apply pw_below_drewN | apply below_drew1) | exact HB.out)) hb); clear HB; have HB := n0_; clear n0_; (try clear hb); (try clear hb2); (try clear hk); (try clear hi)) | ((with_reducible refine gate_callee (f := 10) rfl ?_); refine goesL_ (some 16) rfl rfl Try.func10 (by kernel_rfl) rfl #[.string a0] rfl (by (try simp only [List.map_toArray, List.map_cons, List.map_nil]); first | done | rfl | (simp only [List.length_drop, List.length_take]; rfl)) ?_; (with_reducible refine (crossroadlaw06_light.calls a0 false _ A5.out).mono ?_); rintro e w' ⟨rfl, ⟨nd, rfl⟩⟩; refine ⟨_, rfl, ?_⟩))
      go_ret
      exact ⟨by first | rfl | (simp [errW_none, errW_some] <;> rfl) | (simp [*, errW_none, errW_some] <;> rfl), by repeat (first | (with_reducible first | exact HB.out | apply below_alloc | apply pw_below_drewN | apply below_drew1) | exact HB.out)⟩
  · replace c4 := Bool.eq_false_iff.mpr c4
    subst c4
    have H1 : (some false) = some r := by rw [if_neg (show ¬ (false = true) by decide)] at H; exact H
    clear H
    have H := H1
    clear H1
    obtain rfl := Option.some.inj H
    go_enter Try.func6, Try.ntmps6
    go_wp2_with (first | ((with_reducible refine gate_callee (f := 9) rfl ?_); refine goesL_ (some 13) rfl rfl Try.func9 (by kernel_rfl) rfl #[] rfl (by (try simp only [List.map_toArray, List.map_cons, List.map_nil]); first | done | rfl | (simp only [List.length_drop, List.length_take]; rfl)) ?_; (with_reducible refine (crossroadlaw06_fit.calls k  false _ A3.out).mono ?_); rintro e w46 ⟨rfl, hb⟩; refine ⟨_, rfl, ?_⟩; have n0_ := Aside0.mk (below_step (by repeat (first | (with_reducible first | exact HB.out | apply below_alloc | apply pw_below_drewN | apply below_drew1) | exact HB.out)) hb); clear HB; have HB := n0_; clear n0_; (try clear hb); (try clear hb2); (try clear hk); (try clear hi)))
    go_ret
    exact ⟨by first | rfl | (simp [errW_none, errW_some] <;> rfl) | (simp [*, errW_none, errW_some] <;> rfl), by repeat (first | (with_reducible first | exact HB.out | apply below_alloc | apply pw_below_drewN | apply below_drew1) | exact HB.out)⟩

/-- THE ONE PURE STATEMENT of crossroadlaw06_PathShapes: yours. -/
def crossroadlaw06_PathShapes.Pure : Prop := ∀ (a0 : ByteArray) (a1 : Int), a0.size ≤ 140737488351232 → (Lit.int .i64 a1).wf = true → ∃ k, crossroadlaw06_PathShapes.f k a0 a1 = some true
theorem crossroadlaw06_PathShapes.walk (P : crossroadlaw06_PathShapes.Pure) (a0 : ByteArray) (a1 : Int) (w : World) (w0 : a0.size ≤ 140737488351232) (w1 : (Lit.int .i64 a1).wf = true) :
    Calls Try.prog 6 #[.string a0, .int .i64 a1] w fun e w' => e = .returned (.bool true) ∧ Below w.heap.size w w' := by
  obtain ⟨k, h⟩ := P a0 a1 w0 w1
  refine (crossroadlaw06_PathShapes.calls k a0 a1 true w h).mono ?_
  rintro e w' ⟨rfl, hd⟩
  exact ⟨rfl, hd⟩

end Go.Proofs.Ytnafapefbcmmbaa.X

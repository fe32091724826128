-- Written for this claim by a program of this session (wip/xprint.py). Not trusted: Lean checks it.
import Derived.Test.YtldaingkcnmaoaaX0
import Derived.Test.YtldaingkcnmaoaaX17
namespace Go.Proofs.Ytldaingkcnmaoaa.X
open Go.RowKit Go.Proofs.YtldaingkcnmaoaaW.PrintWords Go.Proofs.YtldaingkcnmaoaaW.PrintLast Go.Proofs.YtldaingkcnmaoaaW.PrintMore
attribute [local go_sem] max2_int min2_int max_two min_two max_three min_three max_four min_four   -- for this text's walks alone
set_option linter.unusedVariables false
set_option linter.unusedSimpArgs false

/-! ### crossroadlaw04_CutterLong: function 3 -/
mutual
def crossroadlaw04_CutterLong.l0 : Nat → Int → ByteArray → Int → Int → Option (Bool)
  | 0, _, _, _, _ => none
  | k + 1, x0, x5, x15, x16 => if x16 < x15 then (if x5.size + 2 ≤ 9223372036854775807 then (crossroadlaw04_CutterLong.l0 k x0 (x5 ++ (⟨#[13, 10]⟩ : ByteArray)) x15 (wrap64 (x16 + 1))) else (none)) else (crossroadlaw04_CutterLong.l1 k x5 (⟨#[71, 69, 84, 32, 47, 32, 72, 84, 84, 80, 47, 49, 46, 49, 13, 10, 104, 111, 115, 116, 58, 32, 97, 13, 10, 120, 58, 32]⟩ : ByteArray) x0 0)
def crossroadlaw04_CutterLong.l1 : Nat → ByteArray → ByteArray → Int → Int → Option (Bool)
  | 0, _, _, _, _ => none
  | k + 1, x5, x6, x21, x22 => if x22 < x21 then (if x6.size + 1 ≤ 9223372036854775807 then (crossroadlaw04_CutterLong.l1 k x5 (x6 ++ (⟨#[118]⟩ : ByteArray)) x21 (wrap64 (x22 + 1))) else (none)) else (if x6.size + 4 ≤ 9223372036854775807 then (if x5.size + (x6 ++ (⟨#[13, 10, 13, 10]⟩ : ByteArray)).size ≤ 9223372036854775807 then ((cutter_All.f k (x5 ++ (x6 ++ (⟨#[13, 10, 13, 10]⟩ : ByteArray)))).bind fun bt282 => (if ((x6 ++ (⟨#[13, 10, 13, 10]⟩ : ByteArray)).size : Int) > 1000 then (if (bt282.1.length : Int) = 0 then (some (bt282.2 == 431)) else (some false)) else (if (bt282.1.length : Int) = 1 then (some (bt282.2 == 0)) else (some false)))) else (none)) else (none))
end
def crossroadlaw04_CutterLong.f (k : Nat) (a0 : Int) (a1 : Int) : Option (Bool) := (crossroadlaw04_fit.f k).bind fun t281 => (if t281 = true then (crossroadlaw04_CutterLong.l0 k (Go.bits .and .i64 a0 2047) (⟨#[]⟩ : ByteArray) (Go.bits .and .i64 a1 3) 0) else (some false))
theorem crossroadlaw04_CutterLong.mono_l : ∀ k, (∀ y0 y1 y2 y3, LeO (crossroadlaw04_CutterLong.l0 k y0 y1 y2 y3) (crossroadlaw04_CutterLong.l0 (k + 1) y0 y1 y2 y3)) ∧ (∀ y0 y1 y2 y3, LeO (crossroadlaw04_CutterLong.l1 k y0 y1 y2 y3) (crossroadlaw04_CutterLong.l1 (k + 1) y0 y1 y2 y3))
  | 0 => ⟨fun _ _ _ _ r h => by simp [crossroadlaw04_CutterLong.l0] at h, fun _ _ _ _ r h => by simp [crossroadlaw04_CutterLong.l1] at h⟩
  | k + 1 => by
    obtain ⟨ih0, ih1⟩ := crossroadlaw04_CutterLong.mono_l k
    refine ⟨?_, ?_⟩
    · intro y0 y1 y2 y3
      unfold crossroadlaw04_CutterLong.l0
      repeat' first
      | (with_reducible exact ih0 _ _ _ _)
      | (with_reducible exact ih1 _ _ _ _)
      | (with_reducible exact crossroadlaw04_fit.mono _)
      | (with_reducible exact cutter_All.mono _ _)
      | (with_reducible exact LeO.refl _)
      | (with_reducible exact LeO.none _)
      | (with_reducible refine LeO.ite ?_ ?_)
      | (with_reducible refine LeO.bind ?_ (fun _ => ?_))
      | exact ih0 _ _ _ _
      | exact ih1 _ _ _ _
      | exact crossroadlaw04_fit.mono _
      | exact cutter_All.mono _ _
      | exact LeO.none _
      | refine LeO.ite ?_ ?_
      | refine LeO.bind ?_ (fun _ => ?_)
    · intro y0 y1 y2 y3
      unfold crossroadlaw04_CutterLong.l1
      repeat' first
      | (with_reducible exact ih0 _ _ _ _)
      | (with_reducible exact ih1 _ _ _ _)
      | (with_reducible exact crossroadlaw04_fit.mono _)
      | (with_reducible exact cutter_All.mono _ _)
      | (with_reducible exact LeO.refl _)
      | (with_reducible exact LeO.none _)
      | (with_reducible refine LeO.ite ?_ ?_)
      | (with_reducible refine LeO.bind ?_ (fun _ => ?_))
      | exact ih0 _ _ _ _
      | exact ih1 _ _ _ _
      | exact crossroadlaw04_fit.mono _
      | exact cutter_All.mono _ _
      | exact LeO.none _
      | refine LeO.ite ?_ ?_
      | refine LeO.bind ?_ (fun _ => ?_)
theorem crossroadlaw04_CutterLong.mono : ∀ a0 a1 k, LeO (crossroadlaw04_CutterLong.f k a0 a1) (crossroadlaw04_CutterLong.f (k + 1) a0 a1) := by
  intro a0 a1 k
  obtain ⟨ih0, ih1⟩ := crossroadlaw04_CutterLong.mono_l k
  unfold crossroadlaw04_CutterLong.f
  repeat' first
      | (with_reducible exact ih0 _ _ _ _)
      | (with_reducible exact ih1 _ _ _ _)
      | (with_reducible exact crossroadlaw04_fit.mono _)
      | (with_reducible exact cutter_All.mono _ _)
      | (with_reducible exact LeO.refl _)
      | (with_reducible exact LeO.none _)
      | (with_reducible refine LeO.ite ?_ ?_)
      | (with_reducible refine LeO.bind ?_ (fun _ => ?_))
      | exact ih0 _ _ _ _
      | exact ih1 _ _ _ _
      | exact crossroadlaw04_fit.mono _
      | exact cutter_All.mono _ _
      | exact LeO.none _
      | refine LeO.ite ?_ ?_
      | refine LeO.bind ?_ (fun _ => ?_)
set_option maxHeartbeats 8000000 in
set_option maxRecDepth 100000 in
theorem crossroadlaw04_CutterLong.calls (k : Nat) (a0 : Int) (a1 : Int) (r : Bool) (w : World) (h : crossroadlaw04_CutterLong.f k a0 a1 = some r) :
    Calls Try.prog 3 #[.int .i64 a0, .int .i64 a1] w fun e w' => e = .returned (.bool r) ∧ Below w.heap.size w w' := by
  have HB := Aside0.mk (Below.refl w.heap.size w)
  have H : ((crossroadlaw04_fit.f k).bind fun t281 => (if t281 = true then (crossroadlaw04_CutterLong.l0 k (Go.bits .and .i64 a0 2047) (⟨#[]⟩ : ByteArray) (Go.bits .and .i64 a1 3) 0) else (some false))) = some r := h
  clear h
  replace H := Option.bind_eq_some_iff.mp H
  obtain ⟨t281, A30, H⟩ := H
  replace H : (if t281 = true then (crossroadlaw04_CutterLong.l0 k (Go.bits .and .i64 a0 2047) (⟨#[]⟩ : ByteArray) (Go.bits .and .i64 a1 3) 0) else (some false)) = some r := H
  have A3 := Aside0.mk A30
  clear A30
  by_cases c4 : t281 = true
  · subst c4
    have H1 : (crossroadlaw04_CutterLong.l0 k (Go.bits .and .i64 a0 2047) (⟨#[]⟩ : ByteArray) (Go.bits .and .i64 a1 3) 0) = some r := by rw [if_pos rfl] at H; exact H
    clear H
    have H := H1
    clear H1
    have H' := Aside0.mk H
    clear H
    go_enter Try.func3, Try.ntmps3
    go_wp2_with (first | ((with_reducible refine gate_callee (f := 5) rfl ?_); refine goesL_ (some 9) rfl rfl Try.func5 (by kernel_rfl) rfl #[] rfl (by (try simp only [List.map_toArray, List.map_cons, List.map_nil]); first | done | rfl | (simp only [List.length_drop, List.length_take]; rfl)) ?_; (with_reducible refine (crossroadlaw04_fit.calls k  true _ A3.out).mono ?_); rintro e w5 ⟨rfl, hb⟩; refine ⟨_, rfl, ?_⟩; have n0_ := Aside0.mk (below_step (by repeat (first | (with_reducible first | exact HB.out | apply below_alloc | apply pw_below_drewN | apply below_drew1) | exact HB.out)) hb); clear HB; have HB := n0_; clear n0_; (try clear hb); (try clear hb2); (try clear hk); (try clear hi)))
    go_loopg [5, 16] k (fun kq v5 v16 w' => ∃ (x5_1 : ByteArray) (x16_1 : Int), v5 = .string x5_1 ∧ v16 = .int .i64 x16_1 ∧ Aside0 (crossroadlaw04_CutterLong.l0 kq (Go.bits .and .i64 a0 2047) x5_1 (Go.bits .and .i64 a1 3) x16_1 = some r) ∧ Aside0 (kq ≤ k) ∧ Aside0 (Below w.heap.size w w'))
    case atStart => exact ⟨((⟨#[]⟩ : ByteArray)), (0), (by first | rfl | (simp; done) | (simp [*]; done)), (by first | rfl | (simp; done) | (simp [*]; done)), H', ⟨Nat.le_refl _⟩, ⟨by repeat (first | (with_reducible first | exact HB.out | apply below_alloc | apply pw_below_drewN | apply below_drew1) | exact HB.out)⟩⟩
    case round =>
      clear H'
      try clear p2
      try clear c3
      try clear c4
      try clear c5
      obtain ⟨x5_1, x16_1, rfl, rfl, HA, HK1, HB⟩ := hrel
      cases gk with
      | zero => exact absurd HA.out (by simp [crossroadlaw04_CutterLong.l0])
      | succ k1 =>
        have H := HA.out
        clear HA
        simp only [crossroadlaw04_CutterLong.l0] at H
        by_cases c6 : x16_1 < (Go.bits .and .i64 a1 3)
        · rw [if_pos c6] at H
          have c6b0 : decide (x16_1 < (Go.bits .and .i64 a1 3)) = true := decide_eq_true c6
          clear c6
          by_cases c7 : x5_1.size + 2 ≤ 9223372036854775807
          · rw [if_pos c7] at H
            have c7b0 := eq_true c7
            have c7b1 : decide (x5_1.size + 2 ≤ 9223372036854775807) = true := decide_eq_true c7
            try have c7b2 : (9223372036854775807 < x5_1.size + 2) = False := eq_false (Nat.not_lt.2 c7)
            have H' := Aside0.mk H
            clear H
            go_wp2
            go_roundg k1
            case measure => have := HK1.out; omega
            case rel => exact ⟨(x5_1 ++ (⟨#[13, 10]⟩ : ByteArray)), (wrap64 (x16_1 + 1)), (by first | rfl | (simp; done) | (simp [*]; done)), (by first | rfl | (simp; done) | (simp [*]; done)), H', ⟨by have := HK1.out; omega⟩, ⟨by repeat (first | (with_reducible first | exact HB.out | apply below_alloc | apply pw_below_drewN | apply below_drew1) | exact HB.out)⟩⟩
          · rw [if_neg c7] at H
            exact absurd H (by simp)
        · rw [if_neg c6] at H
          have c6b0 : decide (x16_1 < (Go.bits .and .i64 a1 3)) = false := decide_eq_false c6
          clear c6
          have H' := Aside0.mk H
          clear H
          go_wp2
          go_loopg [6, 22] k1 (fun kq v6 v22 w' => ∃ (x6_2 : ByteArray) (x22_2 : Int), v6 = .string x6_2 ∧ v22 = .int .i64 x22_2 ∧ Aside0 (crossroadlaw04_CutterLong.l1 kq x5_1 x6_2 (Go.bits .and .i64 a0 2047) x22_2 = some r) ∧ Aside0 (kq ≤ k1) ∧ Aside0 (Below w.heap.size w w'))
          case atStart => exact ⟨((⟨#[71, 69, 84, 32, 47, 32, 72, 84, 84, 80, 47, 49, 46, 49, 13, 10, 104, 111, 115, 116, 58, 32, 97, 13, 10, 120, 58, 32]⟩ : ByteArray)), (0), (by first | rfl | (simp; done) | (simp [*]; done)), (by first | rfl | (simp; done) | (simp [*]; done)), H', ⟨Nat.le_refl _⟩, ⟨by repeat (first | (with_reducible first | exact HB.out | apply below_alloc | apply pw_below_drewN | apply below_drew1) | exact HB.out)⟩⟩
          case round =>
            clear H'
            try clear p2
            try clear c3
            try clear c4
            try clear c5
            try clear c6
            try clear c6b0
            try clear p6
            try clear c7
            try clear c7b0
            try clear c7b1
            try clear c7b2
            try clear p2
            obtain ⟨x6_2, x22_2, rfl, rfl, HA, HK2, HB⟩ := hrel
            cases gk with
            | zero => exact absurd HA.out (by simp [crossroadlaw04_CutterLong.l1])
            | succ k2 =>
              have H := HA.out
              clear HA
              simp only [crossroadlaw04_CutterLong.l1] at H
              by_cases c8 : x22_2 < (Go.bits .and .i64 a0 2047)
              · rw [if_pos c8] at H
                have c8b0 : decide (x22_2 < (Go.bits .and .i64 a0 2047)) = true := decide_eq_true c8
                clear c8
                by_cases c9 : x6_2.size + 1 ≤ 9223372036854775807
                · rw [if_pos c9] at H
                  have c9b0 := eq_true c9
                  have c9b1 : decide (x6_2.size + 1 ≤ 9223372036854775807) = true := decide_eq_true c9
                  try have c9b2 : (9223372036854775807 < x6_2.size + 1) = False := eq_false (Nat.not_lt.2 c9)
                  have H' := Aside0.mk H
                  clear H
                  go_wp2
                  go_roundg k2
                  case measure => have := HK1.out; have := HK2.out; omega
                  case rel => exact ⟨(x6_2 ++ (⟨#[118]⟩ : ByteArray)), (wrap64 (x22_2 + 1)), (by first | rfl | (simp; done) | (simp [*]; done)), (by first | rfl | (simp; done) | (simp [*]; done)), H', ⟨by have := HK1.out; have := HK2.out; omega⟩, ⟨by repeat (first | (with_reducible first | exact HB.out | apply below_alloc | apply pw_below_drewN | apply below_drew1) | exact HB.out)⟩⟩
                · rw [if_neg c9] at H
                  exact absurd H (by simp)
              · rw [if_neg c8] at H
                have c8b0 : decide (x22_2 < (Go.bits .and .i64 a0 2047)) = false := decide_eq_false c8
                clear c8
                by_cases c10 : x6_2.size + 4 ≤ 9223372036854775807
                · rw [if_pos c10] at H
                  have c10b0 := eq_true c10
                  have c10b1 : decide (x6_2.size + 4 ≤ 9223372036854775807) = true := decide_eq_true c10
                  try have c10b2 : (9223372036854775807 < x6_2.size + 4) = False := eq_false (Nat.not_lt.2 c10)
                  by_cases c11 : x5_1.size + (x6_2 ++ (⟨#[13, 10, 13, 10]⟩ : ByteArray)).size ≤ 9223372036854775807
                  · rw [if_pos c11] at H
                    have c11b0 := eq_true c11
                    have c11b1 : decide (x5_1.size + (x6_2 ++ (⟨#[13, 10, 13, 10]⟩ : ByteArray)).size ≤ 9223372036854775807) = true := decide_eq_true c11
                    try have c11b2 : (9223372036854775807 < x5_1.size + (x6_2 ++ (⟨#[13, 10, 13, 10]⟩ : ByteArray)).size) = False := eq_false (Nat.not_lt.2 c11)
                    try have c11b3 : (9223372036854775807 < x5_1.size + x6_2.size + 4) = False := eq_false (by have h_ := c11; simp only [ByteArray.size_append] at h_; have e0_ : (⟨#[13, 10, 13, 10]⟩ : ByteArray).size = 4 := rfl; omega)
                    replace H := Option.bind_eq_some_iff.mp H
                    obtain ⟨⟨t282, t283⟩, A120, H⟩ := H
                    replace H : (if ((x6_2 ++ (⟨#[13, 10, 13, 10]⟩ : ByteArray)).size : Int) > 1000 then (if (t282.length : Int) = 0 then (some (t283 == 431)) else (some false)) else (if (t282.length : Int) = 1 then (some (t283 == 0)) else (some false))) = some r := H
                    have A12 := Aside0.mk A120
                    clear A120
                    by_cases c13 : ((x6_2 ++ (⟨#[13, 10, 13, 10]⟩ : ByteArray)).size : Int) > 1000
                    · rw [if_pos c13] at H
                      have c13b0 : decide (1000 < ((x6_2 ++ (⟨#[13, 10, 13, 10]⟩ : ByteArray)).size : Int)) = true := decide_eq_true c13
                      have c13b8 : decide (1000 < (x6_2.size : Int) + 4) = true := (by have h_ := c13b0; have es_ : (x6_2 ++ (⟨#[13, 10, 13, 10]⟩ : ByteArray)).size = x6_2.size + 4 := (by simp only [ByteArray.size_append]; rfl); have e2_ : ((x6_2 ++ (⟨#[13, 10, 13, 10]⟩ : ByteArray)).size : Int) = (x6_2.size : Int) + 4 := (by omega); rw [e2_] at h_; exact h_)
                      have c13b1 : decide (1000 < (x6_2 ++ (⟨#[13, 10, 13, 10]⟩ : ByteArray)).size) = true := decide_eq_true (by omega)
                      clear c13
                      by_cases c14 : (t282.length : Int) = 0
                      · rw [if_pos c14] at H
                        have c14b0 : ((t282.length : Int) == 0) = true := beq_iff_eq.mpr c14
                        have c14b1 : ((t282.length : Int) != 0) = false := bne_eq_false_iff_eq.mpr c14
                        clear c14
                        obtain rfl := Option.some.inj H
                        go_wp2_with (first | ((with_reducible refine gate_callee (f := 6) rfl ?_); refine goesL_ (some 33) rfl rfl Try.func6 (by kernel_rfl) rfl #[.string (x5_1 ++ (x6_2 ++ (⟨#[13, 10, 13, 10]⟩ : ByteArray)))] rfl (by (try simp only [List.map_toArray, List.map_cons, List.map_nil]); first | done | rfl | (simp only [List.length_drop, List.length_take]; rfl)) ?_; (with_reducible refine (cutter_All.calls k2 (x5_1 ++ (x6_2 ++ (⟨#[13, 10, 13, 10]⟩ : ByteArray))) t282 t283 _ A12.out).mono ?_); rintro e w15 ⟨v284, rfl, ho0, hb⟩; refine ⟨_, rfl, ?_⟩; have n0_ := Aside0.mk (Kd.S_lower ho0 (below_size (by repeat (first | (with_reducible first | exact HB.out | apply below_alloc | apply pw_below_drewN | apply below_drew1) | exact HB.out)))); have n1_ := Aside0.mk (below_step (by repeat (first | (with_reducible first | exact HB.out | apply below_alloc | apply pw_below_drewN | apply below_drew1) | exact HB.out)) hb); clear HB; have HO285 := n0_; have HB := n1_; clear n0_ n1_; (try clear hb); (try clear hb2); (try clear hk); (try clear hi); (try clear ho0); obtain ⟨Ao16, co16, eo16⟩ := Kd.S_slice HO285.out; subst eo16))
                        go_ret
                        exact ⟨by first | rfl | (simp [errW_none, errW_some] <;> rfl) | (simp [*, errW_none, errW_some] <;> rfl), by repeat (first | (with_reducible first | exact HB.out | apply below_alloc | apply pw_below_drewN | apply below_drew1) | exact HB.out)⟩
                      · rw [if_neg c14] at H
                        have c14b0 : ((t282.length : Int) == 0) = false := beq_eq_false_iff_ne.mpr c14
                        have c14b1 : ((t282.length : Int) != 0) = true := bne_iff_ne.mpr c14
                        have c14b2 : ¬ (t282 = []) := fun h_ => c14 (by rw [h_]; rfl)
                        obtain rfl := Option.some.inj H
                        go_wp2_with (first | ((with_reducible refine gate_callee (f := 6) rfl ?_); refine goesL_ (some 33) rfl rfl Try.func6 (by kernel_rfl) rfl #[.string (x5_1 ++ (x6_2 ++ (⟨#[13, 10, 13, 10]⟩ : ByteArray)))] rfl (by (try simp only [List.map_toArray, List.map_cons, List.map_nil]); first | done | rfl | (simp only [List.length_drop, List.length_take]; rfl)) ?_; (with_reducible refine (cutter_All.calls k2 (x5_1 ++ (x6_2 ++ (⟨#[13, 10, 13, 10]⟩ : ByteArray))) t282 t283 _ A12.out).mono ?_); rintro e w17 ⟨v284, rfl, ho0, hb⟩; refine ⟨_, rfl, ?_⟩; have n0_ := Aside0.mk (Kd.S_lower ho0 (below_size (by repeat (first | (with_reducible first | exact HB.out | apply below_alloc | apply pw_below_drewN | apply below_drew1) | exact HB.out)))); have n1_ := Aside0.mk (below_step (by repeat (first | (with_reducible first | exact HB.out | apply below_alloc | apply pw_below_drewN | apply below_drew1) | exact HB.out)) hb); clear HB; have HO285 := n0_; have HB := n1_; clear n0_ n1_; (try clear hb); (try clear hb2); (try clear hk); (try clear hi); (try clear ho0); obtain ⟨Ao18, co18, eo18⟩ := Kd.S_slice HO285.out; subst eo18))
                        go_ret
                        exact ⟨by first | rfl | (simp [errW_none, errW_some] <;> rfl) | (simp [*, errW_none, errW_some] <;> rfl), by repeat (first | (with_reducible first | exact HB.out | apply below_alloc | apply pw_below_drewN | apply below_drew1) | exact HB.out)⟩
                    · rw [if_neg c13] at H
                      have c13b0 : decide (1000 < ((x6_2 ++ (⟨#[13, 10, 13, 10]⟩ : ByteArray)).size : Int)) = false := decide_eq_false c13
                      have c13b8 : decide (1000 < (x6_2.size : Int) + 4) = false := (by have h_ := c13b0; have es_ : (x6_2 ++ (⟨#[13, 10, 13, 10]⟩ : ByteArray)).size = x6_2.size + 4 := (by simp only [ByteArray.size_append]; rfl); have e2_ : ((x6_2 ++ (⟨#[13, 10, 13, 10]⟩ : ByteArray)).size : Int) = (x6_2.size : Int) + 4 := (by omega); rw [e2_] at h_; exact h_)
                      have c13b1 : decide (1000 < (x6_2 ++ (⟨#[13, 10, 13, 10]⟩ : ByteArray)).size) = false := decide_eq_false (by omega)
                      clear c13
                      by_cases c19 : (t282.length : Int) = 1
                      · rw [if_pos c19] at H
                        have c19b0 : ((t282.length : Int) == 1) = true := beq_iff_eq.mpr c19
                        have c19b1 : ((t282.length : Int) != 1) = false := bne_eq_false_iff_eq.mpr c19
                        clear c19
                        obtain rfl := Option.some.inj H
                        go_wp2_with (first | ((with_reducible refine gate_callee (f := 6) rfl ?_); refine goesL_ (some 33) rfl rfl Try.func6 (by kernel_rfl) rfl #[.string (x5_1 ++ (x6_2 ++ (⟨#[13, 10, 13, 10]⟩ : ByteArray)))] rfl (by (try simp only [List.map_toArray, List.map_cons, List.map_nil]); first | done | rfl | (simp only [List.length_drop, List.length_take]; rfl)) ?_; (with_reducible refine (cutter_All.calls k2 (x5_1 ++ (x6_2 ++ (⟨#[13, 10, 13, 10]⟩ : ByteArray))) t282 t283 _ A12.out).mono ?_); rintro e w20 ⟨v284, rfl, ho0, hb⟩; refine ⟨_, rfl, ?_⟩; have n0_ := Aside0.mk (Kd.S_lower ho0 (below_size (by repeat (first | (with_reducible first | exact HB.out | apply below_alloc | apply pw_below_drewN | apply below_drew1) | exact HB.out)))); have n1_ := Aside0.mk (below_step (by repeat (first | (with_reducible first | exact HB.out | apply below_alloc | apply pw_below_drewN | apply below_drew1) | exact HB.out)) hb); clear HB; have HO285 := n0_; have HB := n1_; clear n0_ n1_; (try clear hb); (try clear hb2); (try clear hk); (try clear hi); (try clear ho0); obtain ⟨Ao21, co21, eo21⟩ := Kd.S_slice HO285.out; subst eo21))
                        go_ret
                        exact ⟨by first | rfl | (simp [errW_none, errW_some] <;> rfl) | (simp [*, errW_none, errW_some] <;> rfl), by repeat (first | (with_reducible first | exact HB.out | apply below_alloc | apply pw_below_drewN | apply below_drew1) | exact HB.out)⟩
                      · rw [if_neg c19] at H
                        have c19b0 : ((t282.length : Int) == 1) = false := beq_eq_false_iff_ne.mpr c19
                        have c19b1 : ((t282.length : Int) != 1) = true := bne_iff_ne.mpr c19
                        obtain rfl := Option.some.inj H
                        go_wp2_with (first | ((with_reducible refine gate_callee (f := 6) rfl ?_); refine goesL_ (some 33) rfl rfl Try.func6 (by kernel_rfl) rfl #[.string (x5_1 ++ (x6_2 ++ (⟨#[13, 10, 13, 10]⟩ : ByteArray)))] rfl (by (try simp only [List.map_toArray, List.map_cons, List.map_nil]); first | done | rfl | (simp only [List.length_drop, List.length_take]; rfl)) ?_; (with_reducible refine (cutter_All.calls k2 (x5_1 ++ (x6_2 ++ (⟨#[13, 10, 13, 10]⟩ : ByteArray))) t282 t283 _ A12.out).mono ?_); rintro e w22 ⟨v284, rfl, ho0, hb⟩; refine ⟨_, rfl, ?_⟩; have n0_ := Aside0.mk (Kd.S_lower ho0 (below_size (by repeat (first | (with_reducible first | exact HB.out | apply below_alloc | apply pw_below_drewN | apply below_drew1) | exact HB.out)))); have n1_ := Aside0.mk (below_step (by repeat (first | (with_reducible first | exact HB.out | apply below_alloc | apply pw_below_drewN | apply below_drew1) | exact HB.out)) hb); clear HB; have HO285 := n0_; have HB := n1_; clear n0_ n1_; (try clear hb); (try clear hb2); (try clear hk); (try clear hi); (try clear ho0); obtain ⟨Ao23, co23, eo23⟩ := Kd.S_slice HO285.out; subst eo23))
                        go_ret
                        exact ⟨by first | rfl | (simp [errW_none, errW_some] <;> rfl) | (simp [*, errW_none, errW_some] <;> rfl), by repeat (first | (with_reducible first | exact HB.out | apply below_alloc | apply pw_below_drewN | apply below_drew1) | exact HB.out)⟩
                  · rw [if_neg c11] at H
                    exact absurd H (by simp)
                · rw [if_neg c10] at H
                  exact absurd H (by simp)
  · replace c4 := Bool.eq_false_iff.mpr c4
    subst c4
    have H1 : (some false) = some r := by rw [if_neg (show ¬ (false = true) by decide)] at H; exact H
    clear H
    have H := H1
    clear H1
    obtain rfl := Option.some.inj H
    go_enter Try.func3, Try.ntmps3
    go_wp2_with (first | ((with_reducible refine gate_callee (f := 5) rfl ?_); refine goesL_ (some 9) rfl rfl Try.func5 (by kernel_rfl) rfl #[] rfl (by (try simp only [List.map_toArray, List.map_cons, List.map_nil]); first | done | rfl | (simp only [List.length_drop, List.length_take]; rfl)) ?_; (with_reducible refine (crossroadlaw04_fit.calls k  false _ A3.out).mono ?_); rintro e w24 ⟨rfl, hb⟩; refine ⟨_, rfl, ?_⟩; have n0_ := Aside0.mk (below_step (by repeat (first | (with_reducible first | exact HB.out | apply below_alloc | apply pw_below_drewN | apply below_drew1) | exact HB.out)) hb); clear HB; have HB := n0_; clear n0_; (try clear hb); (try clear hb2); (try clear hk); (try clear hi)))
    go_ret
    exact ⟨by first | rfl | (simp [errW_none, errW_some] <;> rfl) | (simp [*, errW_none, errW_some] <;> rfl), by repeat (first | (with_reducible first | exact HB.out | apply below_alloc | apply pw_below_drewN | apply below_drew1) | exact HB.out)⟩

/-- THE ONE PURE STATEMENT of crossroadlaw04_CutterLong: yours. -/
def crossroadlaw04_CutterLong.Pure : Prop := ∀ (a0 : Int) (a1 : Int), (Lit.int .i64 a0).wf = true → (Lit.int .i64 a1).wf = true → ∃ k, crossroadlaw04_CutterLong.f k a0 a1 = some true
theorem crossroadlaw04_CutterLong.walk (P : crossroadlaw04_CutterLong.Pure) (a0 : Int) (a1 : Int) (w : World) (w0 : (Lit.int .i64 a0).wf = true) (w1 : (Lit.int .i64 a1).wf = true) :
    Calls Try.prog 3 #[.int .i64 a0, .int .i64 a1] w fun e w' => e = .returned (.bool true) ∧ Below w.heap.size w w' := by
  obtain ⟨k, h⟩ := P a0 a1 w0 w1
  refine (crossroadlaw04_CutterLong.calls k a0 a1 true w h).mono ?_
  rintro e w' ⟨rfl, hd⟩
  exact ⟨rfl, hd⟩

end Go.Proofs.Ytldaingkcnmaoaa.X

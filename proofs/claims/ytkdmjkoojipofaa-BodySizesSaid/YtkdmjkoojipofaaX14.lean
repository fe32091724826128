-- Written for this claim by a program of this session (wip/xprint.py). Not trusted: Lean checks it.
import Derived.Test.YtkdmjkoojipofaaX0
import Derived.Test.YtkdmjkoojipofaaX1
import Derived.Test.YtkdmjkoojipofaaX8
import Derived.Test.YtkdmjkoojipofaaX9
import Derived.Test.YtkdmjkoojipofaaX13
namespace Go.Proofs.Ytkdmjkoojipofaa.X
open Go.RowKit Go.Proofs.YtkdmjkoojipofaaW.PrintWords Go.Proofs.YtkdmjkoojipofaaW.PrintLast Go.Proofs.YtkdmjkoojipofaaW.PrintMore
attribute [local go_sem] max2_int min2_int max_two min_two max_three min_three max_four min_four   -- for this text's walks alone
set_option linter.unusedVariables false
set_option linter.unusedSimpArgs false

/-! ### crossroadlaw03_BodySizes: function 6 -/
mutual
def crossroadlaw03_BodySizes.l0 : Nat → Int → Int → ByteArray → Int → Int → Option (Bool)
  | 0, _, _, _, _, _ => none
  | k + 1, x0, x1, x5, x18, x19 => if x19 < x18 then (if x5.size + 1 ≤ 9223372036854775807 then (crossroadlaw03_BodySizes.l0 k x0 x1 (x5 ++ (⟨#[120]⟩ : ByteArray)) x18 (wrap64 (x19 + 1))) else (none)) else (crossroadlaw03_BodySizes.l1 k x0 x1 x5 (⟨#[]⟩ : ByteArray) x1 0)
def crossroadlaw03_BodySizes.l1 : Nat → Int → Int → ByteArray → ByteArray → Int → Int → Option (Bool)
  | 0, _, _, _, _, _, _ => none
  | k + 1, x0, x1, x5, x6, x24, x25 => if x25 < x24 then (if x6.size + 1 ≤ 9223372036854775807 then (crossroadlaw03_BodySizes.l1 k x0 x1 x5 (x6 ++ (⟨#[121]⟩ : ByteArray)) x24 (wrap64 (x25 + 1))) else (none)) else ((some (([x5, x6] : List ByteArray) : List ByteArray)).bind fun y146 => (crossroadlaw03_BodySizes.l2 k x0 x1 x5 x6 (⟨#[]⟩ : ByteArray) y146 (y146.length : Int) 0))
def crossroadlaw03_BodySizes.l2 : Nat → Int → Int → ByteArray → ByteArray → ByteArray → List ByteArray → Int → Int → Option (Bool)
  | 0, _, _, _, _, _, _, _, _ => none
  | k + 1, x0, x1, x5, x6, x7, x32, x33, x34 => if x34 < x33 then (if 0 ≤ x34 then (if x34 < (x32.length : Int) then (if (rdOf ByteArray.empty x32 x34).toList = ([] : List UInt8) then (crossroadlaw03_BodySizes.l2 k x0 x1 x5 x6 x7 x32 x33 (wrap64 (x34 + 1))) else ((crossroadlaw03_hex.f k ((rdOf ByteArray.empty x32 x34).size : Int)).bind fun t150 => (if t150.size + 2 ≤ 9223372036854775807 then (if (t150 ++ (⟨#[13, 10]⟩ : ByteArray)).size + (rdOf ByteArray.empty x32 x34).size ≤ 9223372036854775807 then (if ((t150 ++ (⟨#[13, 10]⟩ : ByteArray)) ++ (rdOf ByteArray.empty x32 x34)).size + 2 ≤ 9223372036854775807 then (if x7.size + (((t150 ++ (⟨#[13, 10]⟩ : ByteArray)) ++ (rdOf ByteArray.empty x32 x34)) ++ (⟨#[13, 10]⟩ : ByteArray)).size ≤ 9223372036854775807 then (crossroadlaw03_BodySizes.l2 k x0 x1 x5 x6 (x7 ++ (((t150 ++ (⟨#[13, 10]⟩ : ByteArray)) ++ (rdOf ByteArray.empty x32 x34)) ++ (⟨#[13, 10]⟩ : ByteArray))) x32 x33 (wrap64 (x34 + 1))) else (none)) else (none)) else (none)) else (none)))) else (none)) else (none)) else (if x7.size + 5 ≤ 9223372036854775807 then ((crossroadlaw03_Feed.f k (-1) (x7 ++ (⟨#[48, 13, 10, 13, 10]⟩ : ByteArray))).bind fun bt151 => (if (wrap64 (x0 + x1)) > 600 then ((body_Body_Status.f bt151.1).bind fun t153 => (some (t153 == 413))) else ((body_Body_Done.f bt151.1).bind fun t154 => (if t154 = true then ((body_Body_Status.f bt151.1).bind fun t155 => (if t155 = 0 then ((body_Body_Data.f bt151.1).bind fun t156 => (if x5.size + x6.size ≤ 9223372036854775807 then (some (t156.toList == (x5 ++ x6).toList)) else (none))) else (some false))) else (some false))))) else (none))
end
def crossroadlaw03_BodySizes.f (k : Nat) (a0 : Int) (a1 : Int) : Option (Bool) := (crossroadlaw03_fit.f k).bind fun t145 => (if t145 = true then (crossroadlaw03_BodySizes.l0 k (Go.bits .and .i64 a0 1023) (Go.bits .and .i64 a1 1023) (⟨#[]⟩ : ByteArray) (Go.bits .and .i64 a0 1023) 0) else (some false))
theorem crossroadlaw03_BodySizes.mono_l : ∀ k, (∀ y0 y1 y2 y3 y4, LeO (crossroadlaw03_BodySizes.l0 k y0 y1 y2 y3 y4) (crossroadlaw03_BodySizes.l0 (k + 1) y0 y1 y2 y3 y4)) ∧ (∀ y0 y1 y2 y3 y4 y5, LeO (crossroadlaw03_BodySizes.l1 k y0 y1 y2 y3 y4 y5) (crossroadlaw03_BodySizes.l1 (k + 1) y0 y1 y2 y3 y4 y5)) ∧ (∀ y0 y1 y2 y3 y4 y5 y6 y7, LeO (crossroadlaw03_BodySizes.l2 k y0 y1 y2 y3 y4 y5 y6 y7) (crossroadlaw03_BodySizes.l2 (k + 1) y0 y1 y2 y3 y4 y5 y6 y7))
  | 0 => ⟨fun _ _ _ _ _ r h => by simp [crossroadlaw03_BodySizes.l0] at h, fun _ _ _ _ _ _ r h => by simp [crossroadlaw03_BodySizes.l1] at h, fun _ _ _ _ _ _ _ _ r h => by simp [crossroadlaw03_BodySizes.l2] at h⟩
  | k + 1 => by
    obtain ⟨ih0, ih1, ih2⟩ := crossroadlaw03_BodySizes.mono_l k
    refine ⟨?_, ?_, ?_⟩
    · intro y0 y1 y2 y3 y4
      unfold crossroadlaw03_BodySizes.l0
      repeat' first
      | (with_reducible exact ih0 _ _ _ _ _)
      | (with_reducible exact ih1 _ _ _ _ _ _)
      | (with_reducible exact ih2 _ _ _ _ _ _ _ _)
      | (with_reducible exact crossroadlaw03_Feed.mono _ _ _)
      | (with_reducible exact crossroadlaw03_fit.mono _)
      | (with_reducible exact crossroadlaw03_hex.mono _ _)
      | (with_reducible exact LeO.refl _)
      | (with_reducible exact LeO.none _)
      | (with_reducible refine LeO.ite ?_ ?_)
      | (with_reducible refine LeO.bind ?_ (fun _ => ?_))
      | exact ih0 _ _ _ _ _
      | exact ih1 _ _ _ _ _ _
      | exact ih2 _ _ _ _ _ _ _ _
      | exact crossroadlaw03_Feed.mono _ _ _
      | exact crossroadlaw03_fit.mono _
      | exact crossroadlaw03_hex.mono _ _
      | exact LeO.none _
      | refine LeO.ite ?_ ?_
      | refine LeO.bind ?_ (fun _ => ?_)
    · intro y0 y1 y2 y3 y4 y5
      unfold crossroadlaw03_BodySizes.l1
      repeat' first
      | (with_reducible exact ih0 _ _ _ _ _)
      | (with_reducible exact ih1 _ _ _ _ _ _)
      | (with_reducible exact ih2 _ _ _ _ _ _ _ _)
      | (with_reducible exact crossroadlaw03_Feed.mono _ _ _)
      | (with_reducible exact crossroadlaw03_fit.mono _)
      | (with_reducible exact crossroadlaw03_hex.mono _ _)
      | (with_reducible exact LeO.refl _)
      | (with_reducible exact LeO.none _)
      | (with_reducible refine LeO.ite ?_ ?_)
      | (with_reducible refine LeO.bind ?_ (fun _ => ?_))
      | exact ih0 _ _ _ _ _
      | exact ih1 _ _ _ _ _ _
      | exact ih2 _ _ _ _ _ _ _ _
      | exact crossroadlaw03_Feed.mono _ _ _
      | exact crossroadlaw03_fit.mono _
      | exact crossroadlaw03_hex.mono _ _
      | exact LeO.none _
      | refine LeO.ite ?_ ?_
      | refine LeO.bind ?_ (fun _ => ?_)
    · intro y0 y1 y2 y3 y4 y5 y6 y7
      unfold crossroadlaw03_BodySizes.l2
      repeat' first
      | (with_reducible exact ih0 _ _ _ _ _)
      | (with_reducible exact ih1 _ _ _ _ _ _)
      | (with_reducible exact ih2 _ _ _ _ _ _ _ _)
      | (with_reducible exact crossroadlaw03_Feed.mono _ _ _)
      | (with_reducible exact crossroadlaw03_fit.mono _)
      | (with_reducible exact crossroadlaw03_hex.mono _ _)
      | (with_reducible exact LeO.refl _)
      | (with_reducible exact LeO.none _)
      | (with_reducible refine LeO.ite ?_ ?_)
      | (with_reducible refine LeO.bind ?_ (fun _ => ?_))
      | exact ih0 _ _ _ _ _
      | exact ih1 _ _ _ _ _ _
      | exact ih2 _ _ _ _ _ _ _ _
      | exact crossroadlaw03_Feed.mono _ _ _
      | exact crossroadlaw03_fit.mono _
      | exact crossroadlaw03_hex.mono _ _
      | exact LeO.none _
      | refine LeO.ite ?_ ?_
      | refine LeO.bind ?_ (fun _ => ?_)
theorem crossroadlaw03_BodySizes.mono : ∀ a0 a1 k, LeO (crossroadlaw03_BodySizes.f k a0 a1) (crossroadlaw03_BodySizes.f (k + 1) a0 a1) := by
  intro a0 a1 k
  obtain ⟨ih0, ih1, ih2⟩ := crossroadlaw03_BodySizes.mono_l k
  unfold crossroadlaw03_BodySizes.f
  repeat' first
      | (with_reducible exact ih0 _ _ _ _ _)
      | (with_reducible exact ih1 _ _ _ _ _ _)
      | (with_reducible exact ih2 _ _ _ _ _ _ _ _)
      | (with_reducible exact crossroadlaw03_Feed.mono _ _ _)
      | (with_reducible exact crossroadlaw03_fit.mono _)
      | (with_reducible exact crossroadlaw03_hex.mono _ _)
      | (with_reducible exact LeO.refl _)
      | (with_reducible exact LeO.none _)
      | (with_reducible refine LeO.ite ?_ ?_)
      | (with_reducible refine LeO.bind ?_ (fun _ => ?_))
      | exact ih0 _ _ _ _ _
      | exact ih1 _ _ _ _ _ _
      | exact ih2 _ _ _ _ _ _ _ _
      | exact crossroadlaw03_Feed.mono _ _ _
      | exact crossroadlaw03_fit.mono _
      | exact crossroadlaw03_hex.mono _ _
      | exact LeO.none _
      | refine LeO.ite ?_ ?_
      | refine LeO.bind ?_ (fun _ => ?_)
set_option maxHeartbeats 8000000 in
set_option maxRecDepth 100000 in
theorem crossroadlaw03_BodySizes.calls (k : Nat) (a0 : Int) (a1 : Int) (r : Bool) (w : World) (h : crossroadlaw03_BodySizes.f k a0 a1 = some r) :
    Calls Try.prog 6 #[.int .i64 a0, .int .i64 a1] w fun e w' => e = .returned (.bool r) ∧ Below w.heap.size w w' := by
  have HB := Aside0.mk (Below.refl w.heap.size w)
  have H : ((crossroadlaw03_fit.f k).bind fun t145 => (if t145 = true then (crossroadlaw03_BodySizes.l0 k (Go.bits .and .i64 a0 1023) (Go.bits .and .i64 a1 1023) (⟨#[]⟩ : ByteArray) (Go.bits .and .i64 a0 1023) 0) else (some false))) = some r := h
  clear h
  replace H := Option.bind_eq_some_iff.mp H
  obtain ⟨t145, A30, H⟩ := H
  replace H : (if t145 = true then (crossroadlaw03_BodySizes.l0 k (Go.bits .and .i64 a0 1023) (Go.bits .and .i64 a1 1023) (⟨#[]⟩ : ByteArray) (Go.bits .and .i64 a0 1023) 0) else (some false)) = some r := H
  have A3 := Aside0.mk A30
  clear A30
  by_cases c4 : t145 = true
  · subst c4
    have H1 : (crossroadlaw03_BodySizes.l0 k (Go.bits .and .i64 a0 1023) (Go.bits .and .i64 a1 1023) (⟨#[]⟩ : ByteArray) (Go.bits .and .i64 a0 1023) 0) = some r := by rw [if_pos rfl] at H; exact H
    clear H
    have H := H1
    clear H1
    have H' := Aside0.mk H
    clear H
    go_enter Try.func6, Try.ntmps6
    go_wp2_with (first | ((with_reducible refine gate_callee (f := 9) rfl ?_); refine goesL_ (some 12) rfl rfl Try.func9 (by kernel_rfl) rfl #[] rfl (by (try simp only [List.map_toArray, List.map_cons, List.map_nil]); first | done | rfl | (simp only [List.length_drop, List.length_take]; rfl)) ?_; (with_reducible refine (crossroadlaw03_fit.calls k  true _ A3.out).mono ?_); rintro e w5 ⟨rfl, hb⟩; (try (have nM_ := Aside0.mk (BodyOwn.below (by repeat (first | exact HOB.out | refine BodyOwn.drewN ?_ | refine BodyOwn.alloc ?_ | refine BodyOwn.drew ?_)) hb); clear HOB; have HOB := nM_; clear nM_)); refine ⟨_, rfl, ?_⟩; have n0_ := Aside0.mk (below_step (by repeat (first | (with_reducible first | exact HB.out | apply below_alloc | apply pw_below_drewN | apply below_drew1) | exact HB.out)) hb); clear HB; have HB := n0_; clear n0_; (try clear hb); (try clear hb2); (try clear hk); (try clear hi)))
    go_loopg [5, 19] k (fun kq v5 v19 w' => ∃ (x5_1 : ByteArray) (x19_1 : Int), v5 = .string x5_1 ∧ v19 = .int .i64 x19_1 ∧ Aside0 (crossroadlaw03_BodySizes.l0 kq (Go.bits .and .i64 a0 1023) (Go.bits .and .i64 a1 1023) x5_1 (Go.bits .and .i64 a0 1023) x19_1 = some r) ∧ Aside0 (kq ≤ k) ∧ Aside0 (Below w.heap.size w w'))
    case atStart => exact ⟨((⟨#[]⟩ : ByteArray)), (0), (by first | rfl | (simp; done) | (simp [*]; done)), (by first | rfl | (simp; done) | (simp [*]; done)), H', ⟨Nat.le_refl _⟩, ⟨by repeat (first | (with_reducible first | exact HB.out | apply below_alloc | apply pw_below_drewN | apply below_drew1) | exact HB.out)⟩⟩
    case round =>
      clear H'
      try clear p2
      try clear c4
      obtain ⟨x5_1, x19_1, rfl, rfl, HA, HK1, HB⟩ := hrel
      cases gk with
      | zero => exact absurd HA.out (by simp [crossroadlaw03_BodySizes.l0])
      | succ k1 =>
        have H := HA.out
        clear HA
        simp only [crossroadlaw03_BodySizes.l0] at H
        by_cases c6 : x19_1 < (Go.bits .and .i64 a0 1023)
        · rw [if_pos c6] at H
          have c6b0 : decide (x19_1 < (Go.bits .and .i64 a0 1023)) = true := decide_eq_true c6
          clear c6
          by_cases c7 : x5_1.size + 1 ≤ 9223372036854775807
          · rw [if_pos c7] at H
            have c7b0 := eq_true c7
            have c7b1 : decide (x5_1.size + 1 ≤ 9223372036854775807) = true := decide_eq_true c7
            try have c7b2 : (9223372036854775807 < x5_1.size + 1) = False := eq_false (Nat.not_lt.2 c7)
            have H' := Aside0.mk H
            clear H
            go_wp2
            go_roundg k1
            case measure => have := HK1.out; omega
            case rel => exact ⟨(x5_1 ++ (⟨#[120]⟩ : ByteArray)), (wrap64 (x19_1 + 1)), (by first | rfl | (simp; done) | (simp [*]; done)), (by first | rfl | (simp; done) | (simp [*]; done)), H', ⟨by have := HK1.out; omega⟩, ⟨by repeat (first | (with_reducible first | exact HB.out | apply below_alloc | apply pw_below_drewN | apply below_drew1) | exact HB.out)⟩⟩
          · rw [if_neg c7] at H
            exact absurd H (by simp)
        · rw [if_neg c6] at H
          have c6b0 : decide (x19_1 < (Go.bits .and .i64 a0 1023)) = false := decide_eq_false c6
          clear c6
          have H' := Aside0.mk H
          clear H
          go_wp2
          go_loopg [6, 25] k1 (fun kq v6 v25 w' => ∃ (x6_2 : ByteArray) (x25_2 : Int), v6 = .string x6_2 ∧ v25 = .int .i64 x25_2 ∧ Aside0 (crossroadlaw03_BodySizes.l1 kq (Go.bits .and .i64 a0 1023) (Go.bits .and .i64 a1 1023) x5_1 x6_2 (Go.bits .and .i64 a1 1023) x25_2 = some r) ∧ Aside0 (kq ≤ k1) ∧ Aside0 (Below w.heap.size w w'))
          case atStart => exact ⟨((⟨#[]⟩ : ByteArray)), (0), (by first | rfl | (simp; done) | (simp [*]; done)), (by first | rfl | (simp; done) | (simp [*]; done)), H', ⟨Nat.le_refl _⟩, ⟨by repeat (first | (with_reducible first | exact HB.out | apply below_alloc | apply pw_below_drewN | apply below_drew1) | exact HB.out)⟩⟩
          case round =>
            clear H'
            try clear p2
            try clear c4
            try clear c6
            try clear c6b0
            try clear p6
            try clear c7
            try clear c7b0
            try clear c7b1
            try clear c7b2
            try clear p2
            obtain ⟨x6_2, x25_2, rfl, rfl, HA, HK2, HB⟩ := hrel
            cases gk with
            | zero => exact absurd HA.out (by simp [crossroadlaw03_BodySizes.l1])
            | succ k2 =>
              have H := HA.out
              clear HA
              simp only [crossroadlaw03_BodySizes.l1] at H
              by_cases c8 : x25_2 < (Go.bits .and .i64 a1 1023)
              · rw [if_pos c8] at H
                have c8b0 : decide (x25_2 < (Go.bits .and .i64 a1 1023)) = true := decide_eq_true c8
                clear c8
                by_cases c9 : x6_2.size + 1 ≤ 9223372036854775807
                · rw [if_pos c9] at H
                  have c9b0 := eq_true c9
                  have c9b1 : decide (x6_2.size + 1 ≤ 9223372036854775807) = true := decide_eq_true c9
                  try have c9b2 : (9223372036854775807 < x6_2.size + 1) = False := eq_false (Nat.not_lt.2 c9)
                  have H' := Aside0.mk H
                  clear H
                  go_wp2
                  go_roundg k2
                  case measure => have := HK1.out; have := HK2.out; omega
                  case rel => exact ⟨(x6_2 ++ (⟨#[121]⟩ : ByteArray)), (wrap64 (x25_2 + 1)), (by first | rfl | (simp; done) | (simp [*]; done)), (by first | rfl | (simp; done) | (simp [*]; done)), H', ⟨by have := HK1.out; have := HK2.out; omega⟩, ⟨by repeat (first | (with_reducible first | exact HB.out | apply below_alloc | apply pw_below_drewN | apply below_drew1) | exact HB.out)⟩⟩
                · rw [if_neg c9] at H
                  exact absurd H (by simp)
              · rw [if_neg c8] at H
                have c8b0 : decide (x25_2 < (Go.bits .and .i64 a1 1023)) = false := decide_eq_false c8
                clear c8
                obtain ⟨y146, hy146⟩ : ∃ y_ : List ByteArray, y_ = (([x5_1, x6_2] : List ByteArray)) := ⟨_, rfl⟩
                replace H : (crossroadlaw03_BodySizes.l2 k2 (Go.bits .and .i64 a0 1023) (Go.bits .and .i64 a1 1023) x5_1 x6_2 (⟨#[]⟩ : ByteArray) y146 (y146.length : Int) 0) = some r := by first | (rw [hy146]; with_reducible exact H) | (have H2_ := (Option.bind_some _ _).symm.trans H; rw [hy146]; with_reducible exact H2_) | (have H2_ := (Option.bind_some _ _).symm.trans H; with_reducible exact H2_) | with_reducible exact H | (rw [hy146]; exact H) | exact H
                have Ny146 := Aside0.mk hy146
                clear hy146
                have H' := Aside0.mk H
                clear H
                go_wp2_with (first | ((with_reducible refine gate_dst (N := 32) rfl ?_); refine Kd.R_lit Kd.string _ 9 ?hg (N := 32) ?hd (xs := ([x5_1, x6_2] : List ByteArray)) (inner := [.string x5_1, .string x6_2]) (ok := fun _ => True) (okp := fun _ => True) ?hr ?hp (fun _ hk => hk) trivial (Below.refl _ _) (Nat.le_refl _) (by simp) ?_; (case hd => rfl); (case hg => rfl); (case hr => first | (go_simp; done) | (go_simp; rfl)); (case hp => exact (Reps.one (show Kd.M Kd.string _ _ _ x5_1 [.string x5_1] from rfl) (Reps.one (show Kd.M Kd.string _ _ _ x6_2 [.string x6_2] from rfl) (Reps.none _ _)))); intro v147 w10 ho11 hb hg_ hnew_; clear hg_ hnew_; (first | rw [← Ny146.out] at ho11 | (simp only [Int.reduceToNat] at ho11; rw [← Ny146.out] at ho11)); have n0_ := Aside0.mk (Kd.R_lower ho11 (below_size (by repeat (first | (with_reducible first | exact HB.out | apply below_alloc | apply pw_below_drewN | apply below_drew1) | exact HB.out)))); have n1_ := Aside0.mk (below_step (by repeat (first | (with_reducible first | exact HB.out | apply below_alloc | apply pw_below_drewN | apply below_drew1) | exact HB.out)) hb); clear HB; have HO148 := n0_; have HB := n1_; clear n0_ n1_; clear hb ho11; obtain ⟨Ao12, co12, eo12⟩ := Kd.R_slice HO148.out; subst eo12))
                go_loopg [7, 34] k2 (fun kq v7 v34 w' => ∃ (x7_3 : ByteArray) (x34_3 : Int), v7 = .string x7_3 ∧ v34 = .int .i64 x34_3 ∧ Aside0 (crossroadlaw03_BodySizes.l2 kq (Go.bits .and .i64 a0 1023) (Go.bits .and .i64 a1 1023) x5_1 x6_2 x7_3 y146 (y146.length : Int) x34_3 = some r) ∧ Aside0 (kq ≤ k2) ∧ Aside0 (Kd.R Kd.string 9 w' w.heap.size (fun _ => True) (.slice Ao12 y146.length co12) y146) ∧ Aside0 (Below w.heap.size w w'))
                case atStart => exact ⟨((⟨#[]⟩ : ByteArray)), (0), (by first | rfl | (simp; done) | (simp [*]; done)), (by first | rfl | (simp; done) | (simp [*]; done)), H', ⟨Nat.le_refl _⟩, ⟨by (with_reducible repeat (first | apply Kd.R_alloc | apply Kd.R_drewN | apply Kd.R_drew)); exact HO148.out⟩, ⟨by repeat (first | (with_reducible first | exact HB.out | apply below_alloc | apply pw_below_drewN | apply below_drew1) | exact HB.out)⟩⟩
                case round =>
                  clear H'
                  try clear p2
                  try clear c4
                  try clear c6
                  try clear c6b0
                  try clear p6
                  try clear c7
                  try clear c7b0
                  try clear c7b1
                  try clear c7b2
                  try clear c8
                  try clear c8b0
                  try clear c9
                  try clear c9b0
                  try clear c9b1
                  try clear c9b2
                  try clear p2
                  try clear p6
                  obtain ⟨x7_3, x34_3, rfl, rfl, HA, HK3, HO_32, HB⟩ := hrel
                  cases gk with
                  | zero => exact absurd HA.out (by simp [crossroadlaw03_BodySizes.l2])
                  | succ k3 =>
                    have H := HA.out
                    clear HA
                    simp only [crossroadlaw03_BodySizes.l2] at H
                    by_cases c13 : x34_3 < (y146.length : Int)
                    · rw [if_pos c13] at H
                      have c13b0 : decide (x34_3 < (y146.length : Int)) = true := decide_eq_true c13
                      clear c13
                      by_cases c14 : 0 ≤ x34_3
                      · rw [if_pos c14] at H
                        have c14b0 : decide (0 ≤ x34_3) = true := decide_eq_true c14
                        clear c14
                        by_cases c15 : x34_3 < (y146.length : Int)
                        · rw [if_pos c15] at H
                          have c15b0 : decide (x34_3 < (y146.length : Int)) = true := decide_eq_true c15
                          clear c15
                          by_cases c16 : (rdOf ByteArray.empty y146 x34_3).toList = ([] : List UInt8)
                          · rw [if_pos c16] at H
                            have c16b0 : ((rdOf ByteArray.empty y146 x34_3).toList == ([] : List UInt8)) = true := beq_iff_eq.mpr c16
                            have c16b1 : ((rdOf ByteArray.empty y146 x34_3).toList != ([] : List UInt8)) = false := bne_eq_false_iff_eq.mpr c16
                            clear c16
                            have H' := Aside0.mk H
                            clear H
                            have p149 : 0 ≤ (x34_3 : Int) := of_decide_eq_true (by first | (with_reducible assumption) | assumption)
                            have q149 : x34_3 < (y146.length : Int) := of_decide_eq_true (by first | (with_reducible assumption) | assumption)
                            obtain ⟨ad149, e149, hx149_0⟩ := Kd.at_string (Kd.R_reads' HO_32.out).2.2 x34_3 p149 q149
                            cases e149
                            replace p149 := eq_true p149
                            replace q149 := eq_true q149
                            go_wp2
                            go_roundg k3
                            case measure => have := HK1.out; have := HK2.out; have := HK3.out; omega
                            case rel => exact ⟨(x7_3), (wrap64 (x34_3 + 1)), (by first | rfl | (simp; done) | (simp [*]; done)), (by first | rfl | (simp; done) | (simp [*]; done)), H', ⟨by have := HK1.out; have := HK2.out; have := HK3.out; omega⟩, ⟨by (with_reducible repeat (first | apply Kd.R_alloc | apply Kd.R_drewN | apply Kd.R_drew)); exact HO_32.out⟩, ⟨by repeat (first | (with_reducible first | exact HB.out | apply below_alloc | apply pw_below_drewN | apply below_drew1) | exact HB.out)⟩⟩
                          · rw [if_neg c16] at H
                            have c16b0 : ((rdOf ByteArray.empty y146 x34_3).toList == ([] : List UInt8)) = false := beq_eq_false_iff_ne.mpr c16
                            have c16b1 : ((rdOf ByteArray.empty y146 x34_3).toList != ([] : List UInt8)) = true := bne_iff_ne.mpr c16
                            replace H := Option.bind_eq_some_iff.mp H
                            obtain ⟨t150, A170, H⟩ := H
                            replace H : (if t150.size + 2 ≤ 9223372036854775807 then (if (t150 ++ (⟨#[13, 10]⟩ : ByteArray)).size + (rdOf ByteArray.empty y146 x34_3).size ≤ 9223372036854775807 then (if ((t150 ++ (⟨#[13, 10]⟩ : ByteArray)) ++ (rdOf ByteArray.empty y146 x34_3)).size + 2 ≤ 9223372036854775807 then (if x7_3.size + (((t150 ++ (⟨#[13, 10]⟩ : ByteArray)) ++ (rdOf ByteArray.empty y146 x34_3)) ++ (⟨#[13, 10]⟩ : ByteArray)).size ≤ 9223372036854775807 then (crossroadlaw03_BodySizes.l2 k3 (Go.bits .and .i64 a0 1023) (Go.bits .and .i64 a1 1023) x5_1 x6_2 (x7_3 ++ (((t150 ++ (⟨#[13, 10]⟩ : ByteArray)) ++ (rdOf ByteArray.empty y146 x34_3)) ++ (⟨#[13, 10]⟩ : ByteArray))) y146 (y146.length : Int) (wrap64 (x34_3 + 1))) else (none)) else (none)) else (none)) else (none)) = some r := H
                            have A17 := Aside0.mk A170
                            clear A170
                            by_cases c18 : t150.size + 2 ≤ 9223372036854775807
                            · rw [if_pos c18] at H
                              have c18b0 := eq_true c18
                              have c18b1 : decide (t150.size + 2 ≤ 9223372036854775807) = true := decide_eq_true c18
                              try have c18b2 : (9223372036854775807 < t150.size + 2) = False := eq_false (Nat.not_lt.2 c18)
                              by_cases c19 : (t150 ++ (⟨#[13, 10]⟩ : ByteArray)).size + (rdOf ByteArray.empty y146 x34_3).size ≤ 9223372036854775807
                              · rw [if_pos c19] at H
                                have c19b0 := eq_true c19
                                have c19b1 : decide ((t150 ++ (⟨#[13, 10]⟩ : ByteArray)).size + (rdOf ByteArray.empty y146 x34_3).size ≤ 9223372036854775807) = true := decide_eq_true c19
                                try have c19b2 : (9223372036854775807 < (t150 ++ (⟨#[13, 10]⟩ : ByteArray)).size + (rdOf ByteArray.empty y146 x34_3).size) = False := eq_false (Nat.not_lt.2 c19)
                                try have c19b3 : (9223372036854775807 < t150.size + 2 + (rdOf ByteArray.empty y146 x34_3).size) = False := eq_false (by have h_ := c19; simp only [ByteArray.size_append] at h_; have e0_ : (⟨#[13, 10]⟩ : ByteArray).size = 2 := rfl; omega)
                                by_cases c20 : ((t150 ++ (⟨#[13, 10]⟩ : ByteArray)) ++ (rdOf ByteArray.empty y146 x34_3)).size + 2 ≤ 9223372036854775807
                                · rw [if_pos c20] at H
                                  have c20b0 := eq_true c20
                                  have c20b1 : decide (((t150 ++ (⟨#[13, 10]⟩ : ByteArray)) ++ (rdOf ByteArray.empty y146 x34_3)).size + 2 ≤ 9223372036854775807) = true := decide_eq_true c20
                                  try have c20b2 : (9223372036854775807 < ((t150 ++ (⟨#[13, 10]⟩ : ByteArray)) ++ (rdOf ByteArray.empty y146 x34_3)).size + 2) = False := eq_false (Nat.not_lt.2 c20)
                                  try have c20b3 : (9223372036854775807 < t150.size + 2 + (rdOf ByteArray.empty y146 x34_3).size + 2) = False := eq_false (by have h_ := c20; simp only [ByteArray.size_append] at h_; have e0_ : (⟨#[13, 10]⟩ : ByteArray).size = 2 := rfl; omega)
                                  by_cases c21 : x7_3.size + (((t150 ++ (⟨#[13, 10]⟩ : ByteArray)) ++ (rdOf ByteArray.empty y146 x34_3)) ++ (⟨#[13, 10]⟩ : ByteArray)).size ≤ 9223372036854775807
                                  · rw [if_pos c21] at H
                                    have c21b0 := eq_true c21
                                    have c21b1 : decide (x7_3.size + (((t150 ++ (⟨#[13, 10]⟩ : ByteArray)) ++ (rdOf ByteArray.empty y146 x34_3)) ++ (⟨#[13, 10]⟩ : ByteArray)).size ≤ 9223372036854775807) = true := decide_eq_true c21
                                    try have c21b2 : (9223372036854775807 < x7_3.size + (((t150 ++ (⟨#[13, 10]⟩ : ByteArray)) ++ (rdOf ByteArray.empty y146 x34_3)) ++ (⟨#[13, 10]⟩ : ByteArray)).size) = False := eq_false (Nat.not_lt.2 c21)
                                    try have c21b3 : (9223372036854775807 < x7_3.size + t150.size + 2 + (rdOf ByteArray.empty y146 x34_3).size + 2) = False := eq_false (by have h_ := c21; simp only [ByteArray.size_append] at h_; have e0_ : (⟨#[13, 10]⟩ : ByteArray).size = 2 := rfl; omega)
                                    have H' := Aside0.mk H
                                    clear H
                                    have p149 : 0 ≤ (x34_3 : Int) := of_decide_eq_true (by first | (with_reducible assumption) | assumption)
                                    have q149 : x34_3 < (y146.length : Int) := of_decide_eq_true (by first | (with_reducible assumption) | assumption)
                                    obtain ⟨ad149, e149, hx149_0⟩ := Kd.at_string (Kd.R_reads' HO_32.out).2.2 x34_3 p149 q149
                                    cases e149
                                    replace p149 := eq_true p149
                                    replace q149 := eq_true q149
                                    go_wp2_with (first | ((with_reducible refine gate_callee (f := 15) rfl ?_); refine goesL_ (some 43) rfl rfl Try.func15 (by kernel_rfl) rfl #[.int .i64 ((rdOf ByteArray.empty y146 x34_3).size : Int)] rfl (by (try simp only [List.map_toArray, List.map_cons, List.map_nil]); first | done | rfl | (simp only [List.length_drop, List.length_take]; rfl)) ?_; (with_reducible refine (crossroadlaw03_hex.calls k3 ((rdOf ByteArray.empty y146 x34_3).size : Int) t150 _ A17.out).mono ?_); rintro e w' ⟨rfl, ⟨nd, rfl⟩⟩; refine ⟨_, rfl, ?_⟩))
                                    go_roundg k3
                                    case measure => have := HK1.out; have := HK2.out; have := HK3.out; omega
                                    case rel => exact ⟨(x7_3 ++ (((t150 ++ (⟨#[13, 10]⟩ : ByteArray)) ++ (rdOf ByteArray.empty y146 x34_3)) ++ (⟨#[13, 10]⟩ : ByteArray))), (wrap64 (x34_3 + 1)), (by first | rfl | (simp; done) | (simp [*]; done)), (by first | rfl | (simp; done) | (simp [*]; done)), H', ⟨by have := HK1.out; have := HK2.out; have := HK3.out; omega⟩, ⟨by (with_reducible repeat (first | apply Kd.R_alloc | apply Kd.R_drewN | apply Kd.R_drew)); exact HO_32.out⟩, ⟨by repeat (first | (with_reducible first | exact HB.out | apply below_alloc | apply pw_below_drewN | apply below_drew1) | exact HB.out)⟩⟩
                                  · rw [if_neg c21] at H
                                    exact absurd H (by simp)
                                · rw [if_neg c20] at H
                                  exact absurd H (by simp)
                              · rw [if_neg c19] at H
                                exact absurd H (by simp)
                            · rw [if_neg c18] at H
                              exact absurd H (by simp)
                        · rw [if_neg c15] at H
                          exact absurd H (by simp)
                      · rw [if_neg c14] at H
                        exact absurd H (by simp)
                    · rw [if_neg c13] at H
                      have c13b0 : decide (x34_3 < (y146.length : Int)) = false := decide_eq_false c13
                      clear c13
                      by_cases c22 : x7_3.size + 5 ≤ 9223372036854775807
                      · rw [if_pos c22] at H
                        have c22b0 := eq_true c22
                        have c22b1 : decide (x7_3.size + 5 ≤ 9223372036854775807) = true := decide_eq_true c22
                        try have c22b2 : (9223372036854775807 < x7_3.size + 5) = False := eq_false (Nat.not_lt.2 c22)
                        replace H := Option.bind_eq_some_iff.mp H
                        obtain ⟨⟨t151, t152⟩, A230, H⟩ := H
                        replace H : (if (wrap64 ((Go.bits .and .i64 a0 1023) + (Go.bits .and .i64 a1 1023))) > 600 then ((body_Body_Status.f t151).bind fun t153 => (some (t153 == 413))) else ((body_Body_Done.f t151).bind fun t154 => (if t154 = true then ((body_Body_Status.f t151).bind fun t155 => (if t155 = 0 then ((body_Body_Data.f t151).bind fun t156 => (if x5_1.size + x6_2.size ≤ 9223372036854775807 then (some (t156.toList == (x5_1 ++ x6_2).toList)) else (none))) else (some false))) else (some false)))) = some r := H
                        have A23 := Aside0.mk A230
                        clear A230
                        by_cases c24 : (wrap64 ((Go.bits .and .i64 a0 1023) + (Go.bits .and .i64 a1 1023))) > 600
                        · rw [if_pos c24] at H
                          have c24b0 : decide (600 < (wrap64 ((Go.bits .and .i64 a0 1023) + (Go.bits .and .i64 a1 1023)))) = true := decide_eq_true c24
                          clear c24
                          replace H := Option.bind_eq_some_iff.mp H
                          obtain ⟨t153, A250, H⟩ := H
                          replace H : (some (t153 == 413)) = some r := H
                          have A25 := Aside0.mk A250
                          clear A250
                          obtain rfl := Option.some.inj H
                          go_wp2_with (first | ((with_reducible refine gate_callee (f := 10) rfl ?_); refine goesL_ (some 53) rfl rfl Try.func10 (by kernel_rfl) rfl #[.int .i64 (-1), .string (x7_3 ++ (⟨#[48, 13, 10, 13, 10]⟩ : ByteArray))] rfl (by (try simp only [List.map_toArray, List.map_cons, List.map_nil]); first | done | rfl | (simp only [List.length_drop, List.length_take]; rfl)) ?_; (with_reducible refine (crossroadlaw03_Feed.calls k3 (-1) (x7_3 ++ (⟨#[48, 13, 10, 13, 10]⟩ : ByteArray)) t151 t152 _ A23.out).mono ?_); rintro e w26 ⟨VO, rfl, hO_, hb⟩; have HOB := Aside0.mk (BodyOwn.less hO_ (below_size (by repeat (first | (with_reducible first | exact HB.out | apply below_alloc | apply pw_below_drewN | apply below_drew1) | exact HB.out)))); clear hO_; refine ⟨_, rfl, ?_⟩; have n0_ := Aside0.mk (Kd.R_below (by (with_reducible repeat (first | apply Kd.R_alloc | apply Kd.R_drewN | apply Kd.R_drew)); exact HO_32.out) hb); have n1_ := Aside0.mk (below_step (by repeat (first | (with_reducible first | exact HB.out | apply below_alloc | apply pw_below_drewN | apply below_drew1) | exact HB.out)) hb); clear HO_32; clear HB; have HO_32 := n0_; have HB := n1_; clear n0_ n1_; (try clear hb); (try clear hb2); (try clear hk); (try clear hi)) | ((with_reducible refine gate_callee (f := 11) rfl ?_); refine goesL_ (some 61) rfl rfl Try.func11 (by kernel_rfl) rfl #[VO] rfl (by (try simp only [List.map_toArray, List.map_cons, List.map_nil]); first | done | rfl | (simp only [List.length_drop, List.length_take]; rfl)) ?_; (refine (body_Body_Status.calls VO (bas w.heap.size) t151 t153 _ (by repeat (first | exact HOB.out | refine BodyOwn.drewN ?_ | refine BodyOwn.alloc ?_ | refine BodyOwn.drew ?_)) A25.out).mono ?_); rintro e w' ⟨rfl, ⟨nd, rfl⟩⟩; refine ⟨_, rfl, ?_⟩))
                          go_ret
                          exact ⟨by first | rfl | (simp [errW_none, errW_some] <;> rfl) | (simp [*, errW_none, errW_some] <;> rfl), by repeat (first | (with_reducible first | exact HB.out | apply below_alloc | apply pw_below_drewN | apply below_drew1) | exact HB.out)⟩
                        · rw [if_neg c24] at H
                          have c24b0 : decide (600 < (wrap64 ((Go.bits .and .i64 a0 1023) + (Go.bits .and .i64 a1 1023)))) = false := decide_eq_false c24
                          clear c24
                          replace H := Option.bind_eq_some_iff.mp H
                          obtain ⟨t154, A270, H⟩ := H
                          replace H : (if t154 = true then ((body_Body_Status.f t151).bind fun t155 => (if t155 = 0 then ((body_Body_Data.f t151).bind fun t156 => (if x5_1.size + x6_2.size ≤ 9223372036854775807 then (some (t156.toList == (x5_1 ++ x6_2).toList)) else (none))) else (some false))) else (some false)) = some r := H
                          have A27 := Aside0.mk A270
                          clear A270
                          by_cases c28 : t154 = true
                          · subst c28
                            have H1 : ((body_Body_Status.f t151).bind fun t155 => (if t155 = 0 then ((body_Body_Data.f t151).bind fun t156 => (if x5_1.size + x6_2.size ≤ 9223372036854775807 then (some (t156.toList == (x5_1 ++ x6_2).toList)) else (none))) else (some false))) = some r := by rw [if_pos rfl] at H; exact H
                            clear H
                            have H := H1
                            clear H1
                            replace H := Option.bind_eq_some_iff.mp H
                            obtain ⟨t155, A290, H⟩ := H
                            replace H : (if t155 = 0 then ((body_Body_Data.f t151).bind fun t156 => (if x5_1.size + x6_2.size ≤ 9223372036854775807 then (some (t156.toList == (x5_1 ++ x6_2).toList)) else (none))) else (some false)) = some r := H
                            have A29 := Aside0.mk A290
                            clear A290
                            by_cases c30 : t155 = 0
                            · rw [if_pos c30] at H
                              have c30b0 : (t155 == 0) = true := beq_iff_eq.mpr c30
                              have c30b1 : (t155 != 0) = false := bne_eq_false_iff_eq.mpr c30
                              clear c30
                              replace H := Option.bind_eq_some_iff.mp H
                              obtain ⟨t156, A310, H⟩ := H
                              replace H : (if x5_1.size + x6_2.size ≤ 9223372036854775807 then (some (t156.toList == (x5_1 ++ x6_2).toList)) else (none)) = some r := H
                              have A31 := Aside0.mk A310
                              clear A310
                              by_cases c32 : x5_1.size + x6_2.size ≤ 9223372036854775807
                              · rw [if_pos c32] at H
                                have c32b0 := eq_true c32
                                have c32b1 : decide (x5_1.size + x6_2.size ≤ 9223372036854775807) = true := decide_eq_true c32
                                try have c32b2 : (9223372036854775807 < x5_1.size + x6_2.size) = False := eq_false (Nat.not_lt.2 c32)
                                obtain rfl := Option.some.inj H
                                go_wp2_with (first | ((with_reducible refine gate_callee (f := 10) rfl ?_); refine goesL_ (some 53) rfl rfl Try.func10 (by kernel_rfl) rfl #[.int .i64 (-1), .string (x7_3 ++ (⟨#[48, 13, 10, 13, 10]⟩ : ByteArray))] rfl (by (try simp only [List.map_toArray, List.map_cons, List.map_nil]); first | done | rfl | (simp only [List.length_drop, List.length_take]; rfl)) ?_; (with_reducible refine (crossroadlaw03_Feed.calls k3 (-1) (x7_3 ++ (⟨#[48, 13, 10, 13, 10]⟩ : ByteArray)) t151 t152 _ A23.out).mono ?_); rintro e w33 ⟨VO, rfl, hO_, hb⟩; have HOB := Aside0.mk (BodyOwn.less hO_ (below_size (by repeat (first | (with_reducible first | exact HB.out | apply below_alloc | apply pw_below_drewN | apply below_drew1) | exact HB.out)))); clear hO_; refine ⟨_, rfl, ?_⟩; have n0_ := Aside0.mk (Kd.R_below (by (with_reducible repeat (first | apply Kd.R_alloc | apply Kd.R_drewN | apply Kd.R_drew)); exact HO_32.out) hb); have n1_ := Aside0.mk (below_step (by repeat (first | (with_reducible first | exact HB.out | apply below_alloc | apply pw_below_drewN | apply below_drew1) | exact HB.out)) hb); clear HO_32; clear HB; have HO_32 := n0_; have HB := n1_; clear n0_ n1_; (try clear hb); (try clear hb2); (try clear hk); (try clear hi)) | ((with_reducible refine gate_callee (f := 13) rfl ?_); refine goesL_ (some 64) rfl rfl Try.func13 (by kernel_rfl) rfl #[VO] rfl (by (try simp only [List.map_toArray, List.map_cons, List.map_nil]); first | done | rfl | (simp only [List.length_drop, List.length_take]; rfl)) ?_; (refine (body_Body_Done.calls VO (bas w.heap.size) t151 true _ (by repeat (first | exact HOB.out | refine BodyOwn.drewN ?_ | refine BodyOwn.alloc ?_ | refine BodyOwn.drew ?_)) A27.out).mono ?_); rintro e w' ⟨rfl, ⟨nd, rfl⟩⟩; refine ⟨_, rfl, ?_⟩) | (go_at_call 11; (refine (body_Body_Status.calls VO (bas w.heap.size) t151 t155 _ (by repeat (first | exact HOB.out | refine BodyOwn.drewN ?_ | refine BodyOwn.alloc ?_ | refine BodyOwn.drew ?_)) A29.out).mono ?_); rintro e w' ⟨rfl, ⟨nd, rfl⟩⟩) | (go_at_call 12; (refine (body_Body_Data.calls VO (bas w.heap.size) t151 t156 _ (by repeat (first | exact HOB.out | refine BodyOwn.drewN ?_ | refine BodyOwn.alloc ?_ | refine BodyOwn.drew ?_)) A31.out).mono ?_); rintro e w' ⟨rfl, ⟨nd, rfl⟩⟩))
                                go_ret
                                exact ⟨by first | rfl | (simp [errW_none, errW_some] <;> rfl) | (simp [*, errW_none, errW_some] <;> rfl), by repeat (first | (with_reducible first | exact HB.out | apply below_alloc | apply pw_below_drewN | apply below_drew1) | exact HB.out)⟩
                              · rw [if_neg c32] at H
                                exact absurd H (by simp)
                            · rw [if_neg c30] at H
                              have c30b0 : (t155 == 0) = false := beq_eq_false_iff_ne.mpr c30
                              have c30b1 : (t155 != 0) = true := bne_iff_ne.mpr c30
                              obtain rfl := Option.some.inj H
                              go_wp2_with (first | ((with_reducible refine gate_callee (f := 10) rfl ?_); refine goesL_ (some 53) rfl rfl Try.func10 (by kernel_rfl) rfl #[.int .i64 (-1), .string (x7_3 ++ (⟨#[48, 13, 10, 13, 10]⟩ : ByteArray))] rfl (by (try simp only [List.map_toArray, List.map_cons, List.map_nil]); first | done | rfl | (simp only [List.length_drop, List.length_take]; rfl)) ?_; (with_reducible refine (crossroadlaw03_Feed.calls k3 (-1) (x7_3 ++ (⟨#[48, 13, 10, 13, 10]⟩ : ByteArray)) t151 t152 _ A23.out).mono ?_); rintro e w34 ⟨VO, rfl, hO_, hb⟩; have HOB := Aside0.mk (BodyOwn.less hO_ (below_size (by repeat (first | (with_reducible first | exact HB.out | apply below_alloc | apply pw_below_drewN | apply below_drew1) | exact HB.out)))); clear hO_; refine ⟨_, rfl, ?_⟩; have n0_ := Aside0.mk (Kd.R_below (by (with_reducible repeat (first | apply Kd.R_alloc | apply Kd.R_drewN | apply Kd.R_drew)); exact HO_32.out) hb); have n1_ := Aside0.mk (below_step (by repeat (first | (with_reducible first | exact HB.out | apply below_alloc | apply pw_below_drewN | apply below_drew1) | exact HB.out)) hb); clear HO_32; clear HB; have HO_32 := n0_; have HB := n1_; clear n0_ n1_; (try clear hb); (try clear hb2); (try clear hk); (try clear hi)) | ((with_reducible refine gate_callee (f := 13) rfl ?_); refine goesL_ (some 64) rfl rfl Try.func13 (by kernel_rfl) rfl #[VO] rfl (by (try simp only [List.map_toArray, List.map_cons, List.map_nil]); first | done | rfl | (simp only [List.length_drop, List.length_take]; rfl)) ?_; (refine (body_Body_Done.calls VO (bas w.heap.size) t151 true _ (by repeat (first | exact HOB.out | refine BodyOwn.drewN ?_ | refine BodyOwn.alloc ?_ | refine BodyOwn.drew ?_)) A27.out).mono ?_); rintro e w' ⟨rfl, ⟨nd, rfl⟩⟩; refine ⟨_, rfl, ?_⟩) | (go_at_call 11; (refine (body_Body_Status.calls VO (bas w.heap.size) t151 t155 _ (by repeat (first | exact HOB.out | refine BodyOwn.drewN ?_ | refine BodyOwn.alloc ?_ | refine BodyOwn.drew ?_)) A29.out).mono ?_); rintro e w' ⟨rfl, ⟨nd, rfl⟩⟩))
                              go_ret
                              exact ⟨by first | rfl | (simp [errW_none, errW_some] <;> rfl) | (simp [*, errW_none, errW_some] <;> rfl), by repeat (first | (with_reducible first | exact HB.out | apply below_alloc | apply pw_below_drewN | apply below_drew1) | exact HB.out)⟩
                          · replace c28 := Bool.eq_false_iff.mpr c28
                            subst c28
                            have H1 : (some false) = some r := by rw [if_neg (show ¬ (false = true) by decide)] at H; exact H
                            clear H
                            have H := H1
                            clear H1
                            obtain rfl := Option.some.inj H
                            go_wp2_with (first | ((with_reducible refine gate_callee (f := 10) rfl ?_); refine goesL_ (some 53) rfl rfl Try.func10 (by kernel_rfl) rfl #[.int .i64 (-1), .string (x7_3 ++ (⟨#[48, 13, 10, 13, 10]⟩ : ByteArray))] rfl (by (try simp only [List.map_toArray, List.map_cons, List.map_nil]); first | done | rfl | (simp only [List.length_drop, List.length_take]; rfl)) ?_; (with_reducible refine (crossroadlaw03_Feed.calls k3 (-1) (x7_3 ++ (⟨#[48, 13, 10, 13, 10]⟩ : ByteArray)) t151 t152 _ A23.out).mono ?_); rintro e w35 ⟨VO, rfl, hO_, hb⟩; have HOB := Aside0.mk (BodyOwn.less hO_ (below_size (by repeat (first | (with_reducible first | exact HB.out | apply below_alloc | apply pw_below_drewN | apply below_drew1) | exact HB.out)))); clear hO_; refine ⟨_, rfl, ?_⟩; have n0_ := Aside0.mk (Kd.R_below (by (with_reducible repeat (first | apply Kd.R_alloc | apply Kd.R_drewN | apply Kd.R_drew)); exact HO_32.out) hb); have n1_ := Aside0.mk (below_step (by repeat (first | (with_reducible first | exact HB.out | apply below_alloc | apply pw_below_drewN | apply below_drew1) | exact HB.out)) hb); clear HO_32; clear HB; have HO_32 := n0_; have HB := n1_; clear n0_ n1_; (try clear hb); (try clear hb2); (try clear hk); (try clear hi)) | ((with_reducible refine gate_callee (f := 13) rfl ?_); refine goesL_ (some 64) rfl rfl Try.func13 (by kernel_rfl) rfl #[VO] rfl (by (try simp only [List.map_toArray, List.map_cons, List.map_nil]); first | done | rfl | (simp only [List.length_drop, List.length_take]; rfl)) ?_; (refine (body_Body_Done.calls VO (bas w.heap.size) t151 false _ (by repeat (first | exact HOB.out | refine BodyOwn.drewN ?_ | refine BodyOwn.alloc ?_ | refine BodyOwn.drew ?_)) A27.out).mono ?_); rintro e w' ⟨rfl, ⟨nd, rfl⟩⟩; refine ⟨_, rfl, ?_⟩))
                            go_ret
                            exact ⟨by first | rfl | (simp [errW_none, errW_some] <;> rfl) | (simp [*, errW_none, errW_some] <;> rfl), by repeat (first | (with_reducible first | exact HB.out | apply below_alloc | apply pw_below_drewN | apply below_drew1) | exact HB.out)⟩
                      · rw [if_neg c22] at H
                        exact absurd H (by simp)
  · replace c4 := Bool.eq_false_iff.mpr c4
    subst c4
    have H1 : (some false) = some r := by rw [if_neg (show ¬ (false = true) by decide)] at H; exact H
    clear H
    have H := H1
    clear H1
    obtain rfl := Option.some.inj H
    go_enter Try.func6, Try.ntmps6
    go_wp2_with (first | ((with_reducible refine gate_callee (f := 9) rfl ?_); refine goesL_ (some 12) rfl rfl Try.func9 (by kernel_rfl) rfl #[] rfl (by (try simp only [List.map_toArray, List.map_cons, List.map_nil]); first | done | rfl | (simp only [List.length_drop, List.length_take]; rfl)) ?_; (with_reducible refine (crossroadlaw03_fit.calls k  false _ A3.out).mono ?_); rintro e w36 ⟨rfl, hb⟩; (try (have nM_ := Aside0.mk (BodyOwn.below (by repeat (first | exact HOB.out | refine BodyOwn.drewN ?_ | refine BodyOwn.alloc ?_ | refine BodyOwn.drew ?_)) hb); clear HOB; have HOB := nM_; clear nM_)); refine ⟨_, rfl, ?_⟩; have n0_ := Aside0.mk (below_step (by repeat (first | (with_reducible first | exact HB.out | apply below_alloc | apply pw_below_drewN | apply below_drew1) | exact HB.out)) hb); clear HB; have HB := n0_; clear n0_; (try clear hb); (try clear hb2); (try clear hk); (try clear hi)))
    go_ret
    exact ⟨by first | rfl | (simp [errW_none, errW_some] <;> rfl) | (simp [*, errW_none, errW_some] <;> rfl), by repeat (first | (with_reducible first | exact HB.out | apply below_alloc | apply pw_below_drewN | apply below_drew1) | exact HB.out)⟩

/-- THE ONE PURE STATEMENT of crossroadlaw03_BodySizes: yours. -/
def crossroadlaw03_BodySizes.Pure : Prop := ∀ (a0 : Int) (a1 : Int), (Lit.int .i64 a0).wf = true → (Lit.int .i64 a1).wf = true → ∃ k, crossroadlaw03_BodySizes.f k a0 a1 = some true
theorem crossroadlaw03_BodySizes.walk (P : crossroadlaw03_BodySizes.Pure) (a0 : Int) (a1 : Int) (w : World) (w0 : (Lit.int .i64 a0).wf = true) (w1 : (Lit.int .i64 a1).wf = true) :
    Calls Try.prog 6 #[.int .i64 a0, .int .i64 a1] w fun e w' => e = .returned (.bool true) ∧ Below w.heap.size w w' := by
  obtain ⟨k, h⟩ := P a0 a1 w0 w1
  refine (crossroadlaw03_BodySizes.calls k a0 a1 true w h).mono ?_
  rintro e w' ⟨rfl, hd⟩
  exact ⟨rfl, hd⟩

end Go.Proofs.Ytkdmjkoojipofaa.X

-- Written for this claim by a program of this session (wip/xprint.py). Not trusted: Lean checks it.
import Derived.Test.YtlkknhojfhbopaaX0
import Derived.Test.YtlkknhojfhbopaaX3
import Derived.Test.YtlkknhojfhbopaaX10
import Derived.Test.YtlkknhojfhbopaaX13
namespace Go.Proofs.Ytlkknhojfhbopaa.X
open Go.RowKit Go.Proofs.YtlkknhojfhbopaaW.PrintWords Go.Proofs.YtlkknhojfhbopaaW.PrintLast Go.Proofs.YtlkknhojfhbopaaW.PrintMore
attribute [local go_sem] max2_int min2_int max_two min_two max_three min_three max_four min_four   -- for this text's walks alone
set_option linter.unusedVariables false
set_option linter.unusedSimpArgs false

/-! ### crossroadlaw01_AsciiValues: function 10 -/
mutual
def crossroadlaw01_AsciiValues.j0 : Nat → ByteArray → Bool → ByteArray → Bool → Option (Bool)
  | 0, _, _, _, _ => none
  | k + 1, x0, x3, x4, x24 => if x24 = true then (some false) else (if x0.size ≤ 9223372036854775807 then ((some (bytesOf x0 : List Int)).bind fun y223 => (crossroadlaw01_AsciiValues.l0 k x0 x3 x4 y223 (y223.length : Int) 0)) else (none))
def crossroadlaw01_AsciiValues.l0 : Nat → ByteArray → Bool → ByteArray → List Int → Int → Int → Option (Bool)
  | 0, _, _, _, _, _, _ => none
  | k + 1, x0, x3, x4, x26, x27, x28 => if x28 < x27 then (if 0 ≤ x28 then (if x28 < (x26.length : Int) then (if x3 = true then (if (rd x26 x28) ≥ 32 then (crossroadlaw01_AsciiValues.j2 k x0 ((rd x26 x28) != 127) x4 x28 (rd x26 x28) x26 x27 x28) else (if (rd x26 x28) = 9 then (crossroadlaw01_AsciiValues.j2 k x0 ((rd x26 x28) != 127) x4 x28 (rd x26 x28) x26 x27 x28) else (crossroadlaw01_AsciiValues.j2 k x0 false x4 x28 (rd x26 x28) x26 x27 x28))) else (crossroadlaw01_AsciiValues.j2 k x0 false x4 x28 (rd x26 x28) x26 x27 x28)) else (none)) else (none)) else ((ascii_Value.f x0).bind fun t226 => (some (t226 == x3)))
def crossroadlaw01_AsciiValues.j2 : Nat → ByteArray → Bool → ByteArray → Int → Int → List Int → Int → Int → Option (Bool)
  | 0, _, _, _, _, _, _, _, _ => none
  | k + 1, x0, x3, x4, x5, x6, x26, x27, x28 => if x6 ≥ 65 then (crossroadlaw01_AsciiValues.j3 k x0 x3 x4 x5 x6 x26 x27 x28 (decide (x6 ≤ 90))) else (crossroadlaw01_AsciiValues.j3 k x0 x3 x4 x5 x6 x26 x27 x28 false)
def crossroadlaw01_AsciiValues.j3 : Nat → ByteArray → Bool → ByteArray → Int → Int → List Int → Int → Int → Bool → Option (Bool)
  | 0, _, _, _, _, _, _, _, _, _ => none
  | k + 1, x0, x3, x4, x5, x6, x26, x27, x28, x51 => if x51 = true then (if 0 ≤ x5 then (if x5 < (x4.size : Int) then (if (bt x4 x5) = ((x6 + 32) % 256) then (crossroadlaw01_AsciiValues.l0 k x0 x3 x4 x26 x27 (wrap64 (x28 + 1))) else (some false)) else (none)) else (none)) else (if 0 ≤ x5 then (if x5 < (x4.size : Int) then (if (bt x4 x5) = x6 then (crossroadlaw01_AsciiValues.l0 k x0 x3 x4 x26 x27 (wrap64 (x28 + 1))) else (some false)) else (none)) else (none))
end
def crossroadlaw01_AsciiValues.f (k : Nat) (a0 : ByteArray) : Option (Bool) := (crossroadlaw01_fit.f k).bind fun t219 => (if t219 = true then ((crossroadlaw01_light.f a0).bind fun t220 => (if t220 = true then ((ascii_Lower.f a0).bind fun t221 => (if (t221.size : Int) = (a0.size : Int) then ((ascii_Lower.f t221).bind fun t222 => (crossroadlaw01_AsciiValues.j0 k a0 true t221 (t222.toList != t221.toList))) else (crossroadlaw01_AsciiValues.j0 k a0 true t221 true))) else (some true))) else (some false))
theorem crossroadlaw01_AsciiValues.mono_l : ∀ k, (∀ y0 y1 y2 y3, LeO (crossroadlaw01_AsciiValues.j0 k y0 y1 y2 y3) (crossroadlaw01_AsciiValues.j0 (k + 1) y0 y1 y2 y3)) ∧ (∀ y0 y1 y2 y3 y4 y5, LeO (crossroadlaw01_AsciiValues.l0 k y0 y1 y2 y3 y4 y5) (crossroadlaw01_AsciiValues.l0 (k + 1) y0 y1 y2 y3 y4 y5)) ∧ (∀ y0 y1 y2 y3 y4 y5 y6 y7, LeO (crossroadlaw01_AsciiValues.j2 k y0 y1 y2 y3 y4 y5 y6 y7) (crossroadlaw01_AsciiValues.j2 (k + 1) y0 y1 y2 y3 y4 y5 y6 y7)) ∧ (∀ y0 y1 y2 y3 y4 y5 y6 y7 y8, LeO (crossroadlaw01_AsciiValues.j3 k y0 y1 y2 y3 y4 y5 y6 y7 y8) (crossroadlaw01_AsciiValues.j3 (k + 1) y0 y1 y2 y3 y4 y5 y6 y7 y8))
  | 0 => ⟨fun _ _ _ _ r h => by simp [crossroadlaw01_AsciiValues.j0] at h, fun _ _ _ _ _ _ r h => by simp [crossroadlaw01_AsciiValues.l0] at h, fun _ _ _ _ _ _ _ _ r h => by simp [crossroadlaw01_AsciiValues.j2] at h, fun _ _ _ _ _ _ _ _ _ r h => by simp [crossroadlaw01_AsciiValues.j3] at h⟩
  | k + 1 => by
    obtain ⟨ih0, ih1, ih2, ih3⟩ := crossroadlaw01_AsciiValues.mono_l k
    refine ⟨?_, ?_, ?_, ?_⟩
    · intro y0 y1 y2 y3
      unfold crossroadlaw01_AsciiValues.j0
      repeat' first
      | (with_reducible exact ih0 _ _ _ _)
      | (with_reducible exact ih1 _ _ _ _ _ _)
      | (with_reducible exact ih2 _ _ _ _ _ _ _ _)
      | (with_reducible exact ih3 _ _ _ _ _ _ _ _ _)
      | (with_reducible exact crossroadlaw01_fit.mono _)
      | (with_reducible exact LeO.refl _)
      | (with_reducible exact LeO.none _)
      | (with_reducible refine LeO.ite ?_ ?_)
      | (with_reducible refine LeO.bind ?_ (fun _ => ?_))
      | exact ih0 _ _ _ _
      | exact ih1 _ _ _ _ _ _
      | exact ih2 _ _ _ _ _ _ _ _
      | exact ih3 _ _ _ _ _ _ _ _ _
      | exact crossroadlaw01_fit.mono _
      | exact LeO.none _
      | refine LeO.ite ?_ ?_
      | refine LeO.bind ?_ (fun _ => ?_)
    · intro y0 y1 y2 y3 y4 y5
      unfold crossroadlaw01_AsciiValues.l0
      repeat' first
      | (with_reducible exact ih0 _ _ _ _)
      | (with_reducible exact ih1 _ _ _ _ _ _)
      | (with_reducible exact ih2 _ _ _ _ _ _ _ _)
      | (with_reducible exact ih3 _ _ _ _ _ _ _ _ _)
      | (with_reducible exact crossroadlaw01_fit.mono _)
      | (with_reducible exact LeO.refl _)
      | (with_reducible exact LeO.none _)
      | (with_reducible refine LeO.ite ?_ ?_)
      | (with_reducible refine LeO.bind ?_ (fun _ => ?_))
      | exact ih0 _ _ _ _
      | exact ih1 _ _ _ _ _ _
      | exact ih2 _ _ _ _ _ _ _ _
      | exact ih3 _ _ _ _ _ _ _ _ _
      | exact crossroadlaw01_fit.mono _
      | exact LeO.none _
      | refine LeO.ite ?_ ?_
      | refine LeO.bind ?_ (fun _ => ?_)
    · intro y0 y1 y2 y3 y4 y5 y6 y7
      unfold crossroadlaw01_AsciiValues.j2
      repeat' first
      | (with_reducible exact ih0 _ _ _ _)
      | (with_reducible exact ih1 _ _ _ _ _ _)
      | (with_reducible exact ih2 _ _ _ _ _ _ _ _)
      | (with_reducible exact ih3 _ _ _ _ _ _ _ _ _)
      | (with_reducible exact crossroadlaw01_fit.mono _)
      | (with_reducible exact LeO.refl _)
      | (with_reducible exact LeO.none _)
      | (with_reducible refine LeO.ite ?_ ?_)
      | (with_reducible refine LeO.bind ?_ (fun _ => ?_))
      | exact ih0 _ _ _ _
      | exact ih1 _ _ _ _ _ _
      | exact ih2 _ _ _ _ _ _ _ _
      | exact ih3 _ _ _ _ _ _ _ _ _
      | exact crossroadlaw01_fit.mono _
      | exact LeO.none _
      | refine LeO.ite ?_ ?_
      | refine LeO.bind ?_ (fun _ => ?_)
    · intro y0 y1 y2 y3 y4 y5 y6 y7 y8
      unfold crossroadlaw01_AsciiValues.j3
      repeat' first
      | (with_reducible exact ih0 _ _ _ _)
      | (with_reducible exact ih1 _ _ _ _ _ _)
      | (with_reducible exact ih2 _ _ _ _ _ _ _ _)
      | (with_reducible exact ih3 _ _ _ _ _ _ _ _ _)
      | (with_reducible exact crossroadlaw01_fit.mono _)
      | (with_reducible exact LeO.refl _)
      | (with_reducible exact LeO.none _)
      | (with_reducible refine LeO.ite ?_ ?_)
      | (with_reducible refine LeO.bind ?_ (fun _ => ?_))
      | exact ih0 _ _ _ _
      | exact ih1 _ _ _ _ _ _
      | exact ih2 _ _ _ _ _ _ _ _
      | exact ih3 _ _ _ _ _ _ _ _ _
      | exact crossroadlaw01_fit.mono _
      | exact LeO.none _
      | refine LeO.ite ?_ ?_
      | refine LeO.bind ?_ (fun _ => ?_)
theorem crossroadlaw01_AsciiValues.mono : ∀ a0 k, LeO (crossroadlaw01_AsciiValues.f k a0) (crossroadlaw01_AsciiValues.f (k + 1) a0) := by
  intro a0 k
  obtain ⟨ih0, ih1, ih2, ih3⟩ := crossroadlaw01_AsciiValues.mono_l k
  unfold crossroadlaw01_AsciiValues.f
  repeat' first
      | (with_reducible exact ih0 _ _ _ _)
      | (with_reducible exact ih1 _ _ _ _ _ _)
      | (with_reducible exact ih2 _ _ _ _ _ _ _ _)
      | (with_reducible exact ih3 _ _ _ _ _ _ _ _ _)
      | (with_reducible exact crossroadlaw01_fit.mono _)
      | (with_reducible exact LeO.refl _)
      | (with_reducible exact LeO.none _)
      | (with_reducible refine LeO.ite ?_ ?_)
      | (with_reducible refine LeO.bind ?_ (fun _ => ?_))
      | exact ih0 _ _ _ _
      | exact ih1 _ _ _ _ _ _
      | exact ih2 _ _ _ _ _ _ _ _
      | exact ih3 _ _ _ _ _ _ _ _ _
      | exact crossroadlaw01_fit.mono _
      | exact LeO.none _
      | refine LeO.ite ?_ ?_
      | refine LeO.bind ?_ (fun _ => ?_)
set_option maxHeartbeats 8000000 in
set_option maxRecDepth 100000 in
theorem crossroadlaw01_AsciiValues.calls (k : Nat) (a0 : ByteArray) (r : Bool) (w : World) (h : crossroadlaw01_AsciiValues.f k a0 = some r) :
    Calls Try.prog 10 #[.string a0] w fun e w' => e = .returned (.bool r) ∧ Below w.heap.size w w' := by
  have HB := Aside0.mk (Below.refl w.heap.size w)
  have H : ((crossroadlaw01_fit.f k).bind fun t219 => (if t219 = true then ((crossroadlaw01_light.f a0).bind fun t220 => (if t220 = true then ((ascii_Lower.f a0).bind fun t221 => (if (t221.size : Int) = (a0.size : Int) then ((ascii_Lower.f t221).bind fun t222 => (crossroadlaw01_AsciiValues.j0 k a0 true t221 (t222.toList != t221.toList))) else (crossroadlaw01_AsciiValues.j0 k a0 true t221 true))) else (some true))) else (some false))) = some r := h
  clear h
  replace H := Option.bind_eq_some_iff.mp H
  obtain ⟨t219, A20, H⟩ := H
  replace H : (if t219 = true then ((crossroadlaw01_light.f a0).bind fun t220 => (if t220 = true then ((ascii_Lower.f a0).bind fun t221 => (if (t221.size : Int) = (a0.size : Int) then ((ascii_Lower.f t221).bind fun t222 => (crossroadlaw01_AsciiValues.j0 k a0 true t221 (t222.toList != t221.toList))) else (crossroadlaw01_AsciiValues.j0 k a0 true t221 true))) else (some true))) else (some false)) = some r := H
  have A2 := Aside0.mk A20
  clear A20
  by_cases c3 : t219 = true
  · subst c3
    have H1 : ((crossroadlaw01_light.f a0).bind fun t220 => (if t220 = true then ((ascii_Lower.f a0).bind fun t221 => (if (t221.size : Int) = (a0.size : Int) then ((ascii_Lower.f t221).bind fun t222 => (crossroadlaw01_AsciiValues.j0 k a0 true t221 (t222.toList != t221.toList))) else (crossroadlaw01_AsciiValues.j0 k a0 true t221 true))) else (some true))) = some r := by rw [if_pos rfl] at H; exact H
    clear H
    have H := H1
    clear H1
    replace H := Option.bind_eq_some_iff.mp H
    obtain ⟨t220, A40, H⟩ := H
    replace H : (if t220 = true then ((ascii_Lower.f a0).bind fun t221 => (if (t221.size : Int) = (a0.size : Int) then ((ascii_Lower.f t221).bind fun t222 => (crossroadlaw01_AsciiValues.j0 k a0 true t221 (t222.toList != t221.toList))) else (crossroadlaw01_AsciiValues.j0 k a0 true t221 true))) else (some true)) = some r := H
    have A4 := Aside0.mk A40
    clear A40
    by_cases c5 : t220 = true
    · subst c5
      have H1 : ((ascii_Lower.f a0).bind fun t221 => (if (t221.size : Int) = (a0.size : Int) then ((ascii_Lower.f t221).bind fun t222 => (crossroadlaw01_AsciiValues.j0 k a0 true t221 (t222.toList != t221.toList))) else (crossroadlaw01_AsciiValues.j0 k a0 true t221 true))) = some r := by rw [if_pos rfl] at H; exact H
      clear H
      have H := H1
      clear H1
      replace H := Option.bind_eq_some_iff.mp H
      obtain ⟨t221, A60, H⟩ := H
      replace H : (if (t221.size : Int) = (a0.size : Int) then ((ascii_Lower.f t221).bind fun t222 => (crossroadlaw01_AsciiValues.j0 k a0 true t221 (t222.toList != t221.toList))) else (crossroadlaw01_AsciiValues.j0 k a0 true t221 true)) = some r := H
      have A6 := Aside0.mk A60
      clear A60
      have HC7 := Aside0.mk H
      clear H
      go_enter Try.func10, Try.ntmps10
      go_upto_region 7 with (first | ((with_reducible refine gate_callee (f := 11) rfl ?_); refine goesL_ (some 7) rfl rfl Try.func11 (by kernel_rfl) rfl #[] rfl (by (try simp only [List.map_toArray, List.map_cons, List.map_nil]); first | done | rfl | (simp only [List.length_drop, List.length_take]; rfl)) ?_; (with_reducible refine (crossroadlaw01_fit.calls k  true _ A2.out).mono ?_); rintro e w8 ⟨rfl, hb⟩; refine ⟨_, rfl, ?_⟩; have n0_ := Aside0.mk (below_step (by repeat (first | (with_reducible first | exact HB.out | apply below_alloc | apply pw_below_drewN | apply below_drew1) | exact HB.out)) hb); clear HB; have HB := n0_; clear n0_; (try clear hb); (try clear hb2); (try clear hk); (try clear hi)) | ((with_reducible refine gate_callee (f := 12) rfl ?_); refine goesL_ (some 10) rfl rfl Try.func12 (by kernel_rfl) rfl #[.string a0] rfl (by (try simp only [List.map_toArray, List.map_cons, List.map_nil]); first | done | rfl | (simp only [List.length_drop, List.length_take]; rfl)) ?_; (with_reducible refine (crossroadlaw01_light.calls a0 true _ A4.out).mono ?_); rintro e w' ⟨rfl, ⟨nd, rfl⟩⟩; refine ⟨_, rfl, ?_⟩) | ((with_reducible refine gate_callee (f := 17) rfl ?_); refine goesL_ (some 13) rfl rfl Try.func17 (by kernel_rfl) rfl #[.string a0] rfl (by (try simp only [List.map_toArray, List.map_cons, List.map_nil]); first | done | rfl | (simp only [List.length_drop, List.length_take]; rfl)) ?_; (with_reducible refine (ascii_Lower.calls a0 t221 _ A6.out).mono ?_); rintro e w9 ⟨rfl, hb⟩; refine ⟨_, rfl, ?_⟩; have n0_ := Aside0.mk (below_step (by repeat (first | (with_reducible first | exact HB.out | apply below_alloc | apply pw_below_drewN | apply below_drew1) | exact HB.out)) hb); clear HB; have HB := n0_; clear n0_; (try clear hb); (try clear hb2); (try clear hk); (try clear hi)))
      (try simp only [Act.put, List.setIfInBounds_toArray, List.set_cons_zero, List.set_cons_succ])
      go_cut [24] (fun v24 wc => ∃ (kq : Nat) (x24_6 : Bool), v24 = .bool x24_6 ∧ Aside0 (crossroadlaw01_AsciiValues.j0 kq a0 true t221 x24_6 = some r) ∧ Aside0 (kq ≤ k) ∧ Aside0 (Below w.heap.size w wc))
      case first =>
        have H := HC7.out
        clear HC7
        by_cases c10 : (t221.size : Int) = (a0.size : Int)
        · rw [if_pos c10] at H
          have c10b0 : ((t221.size : Int) == (a0.size : Int)) = true := beq_iff_eq.mpr c10
          have c10b1 : ((t221.size : Int) != (a0.size : Int)) = false := bne_eq_false_iff_eq.mpr c10
          have c10b2 : (t221.size == a0.size) = true := by first | simpa using c10 | (simp at c10 ⊢; omega)
          clear c10
          (first | rw [c10b0] | (simp only [i64_w, i32_w]; rw [c10b0]) | skip)
          replace H := Option.bind_eq_some_iff.mp H
          obtain ⟨t222, A110, H⟩ := H
          replace H : (crossroadlaw01_AsciiValues.j0 k a0 true t221 (t222.toList != t221.toList)) = some r := H
          have A11 := Aside0.mk A110
          clear A110
          have H' := Aside0.mk H
          clear H
          go_wp2_with (first | (go_at_call 17; (with_reducible refine (ascii_Lower.calls t221 t222 _ A11.out).mono ?_); rintro e w12 ⟨rfl, hb⟩; have n0_ := Aside0.mk (below_step (by repeat (first | (with_reducible first | exact HB.out | apply below_alloc | apply pw_below_drewN | apply below_drew1) | exact HB.out)) hb); clear HB; have HB := n0_; clear n0_; (try clear hb); (try clear hb2); (try clear hk); (try clear hi)))
          go_meet
          case rel => exact ⟨_, ((t222.toList != t221.toList)), (by first | rfl | (simp; done) | (simp [*]; done)), H', ⟨by first | omega | exact Nat.le_refl _⟩, ⟨by repeat (first | (with_reducible first | exact HB.out | apply below_alloc | apply pw_below_drewN | apply below_drew1) | exact HB.out)⟩⟩
        · rw [if_neg c10] at H
          have c10b0 : ((t221.size : Int) == (a0.size : Int)) = false := beq_eq_false_iff_ne.mpr c10
          have c10b1 : ((t221.size : Int) != (a0.size : Int)) = true := bne_iff_ne.mpr c10
          have c10b2 : (t221.size == a0.size) = false := by first | simpa using c10 | (simp at c10 ⊢; omega)
          (first | rw [c10b0] | (simp only [i64_w, i32_w]; rw [c10b0]) | skip)
          have H' := Aside0.mk H
          clear H
          go_wp2
          go_meet
          case rel => exact ⟨_, (true), (by first | rfl | (simp; done) | (simp [*]; done)), H', ⟨by first | omega | exact Nat.le_refl _⟩, ⟨by repeat (first | (with_reducible first | exact HB.out | apply below_alloc | apply pw_below_drewN | apply below_drew1) | exact HB.out)⟩⟩
      case rest =>
        clear HC7
        try clear c1
        try clear p2
        try clear c3
        try clear c5
        try clear c10
        try clear c10b0
        try clear c10b1
        try clear c10b2
        try clear c11
        try clear c12
        obtain ⟨kq, x24_6, rfl, HA, HJ6, HB⟩ := hcut
        cases kq with
        | zero => exact absurd HA.out (by simp [crossroadlaw01_AsciiValues.j0])
        | succ kj6 =>
          have H := HA.out
          clear HA
          simp only [crossroadlaw01_AsciiValues.j0] at H
          by_cases c13 : x24_6 = true
          · subst c13
            have H1 : (some false) = some r := by rw [if_pos rfl] at H; exact H
            clear H
            have H := H1
            clear H1
            obtain rfl := Option.some.inj H
            go_wp2
            go_ret
            exact ⟨by first | rfl | (simp [errW_none, errW_some] <;> rfl) | (simp [*, errW_none, errW_some] <;> rfl), by repeat (first | (with_reducible first | exact HB.out | apply below_alloc | apply pw_below_drewN | apply below_drew1) | exact HB.out)⟩
          · replace c13 := Bool.eq_false_iff.mpr c13
            subst c13
            have H1 : (if a0.size ≤ 9223372036854775807 then ((some (bytesOf a0 : List Int)).bind fun y223 => (crossroadlaw01_AsciiValues.l0 kj6 a0 true t221 y223 (y223.length : Int) 0)) else (none)) = some r := by rw [if_neg (show ¬ (false = true) by decide)] at H; exact H
            clear H
            have H := H1
            clear H1
            by_cases c14 : a0.size ≤ 9223372036854775807
            · rw [if_pos c14] at H
              have LMc14 := Aside0.mk c14
              clear c14
              obtain ⟨y223, hy223⟩ : ∃ y_ : List Int, y_ = (bytesOf a0) := ⟨_, rfl⟩
              replace H : (crossroadlaw01_AsciiValues.l0 kj6 a0 true t221 y223 (y223.length : Int) 0) = some r := by first | (rw [hy223]; with_reducible exact H) | (have H2_ := (Option.bind_some _ _).symm.trans H; rw [hy223]; with_reducible exact H2_) | (have H2_ := (Option.bind_some _ _).symm.trans H; with_reducible exact H2_) | with_reducible exact H | (rw [hy223]; exact H) | exact H
              have Ny223 := Aside0.mk hy223
              clear hy223
              have H' := Aside0.mk H
              clear H
              go_wp2_with (first | ((with_reducible refine gate_dst (N := 26) rfl ?_); refine Kd.V_conv _ 5 rfl (N := 26) rfl 9 24 (.tmp 25) rfl a0 rfl Try.underlying9 Try.underlying24 Try.underlying5 (ok := fun k_ => wc.heap.size ≤ k_) (Nat.le_refl _) ?lm (Below.refl _ _) (Nat.le_refl _) ?_; (case lm => have := LMc14.out; omega); intro v224 w15 ho16 hb hg_ hnew_; clear hg_ hnew_; (first | rw [← Ny223.out] at ho16 | (simp only [Int.reduceToNat] at ho16; rw [← Ny223.out] at ho16)); have n0_ := Aside0.mk (Kd.V_lower (Kd.V_mono (ok' := fun k_ => True) ho16 (fun k_ hk_ => trivial)) (below_size (by repeat (first | (with_reducible first | exact HB.out | apply below_alloc | apply pw_below_drewN | apply below_drew1) | exact HB.out)))); have n1_ := Aside0.mk (below_step (by repeat (first | (with_reducible first | exact HB.out | apply below_alloc | apply pw_below_drewN | apply below_drew1) | exact HB.out)) hb); clear HB; have HO225 := n0_; have HB := n1_; clear n0_ n1_; clear hb ho16; obtain ⟨Ao17, co17, eo17⟩ := Kd.V_slice HO225.out; subst eo17))
              go_loopg [3, 28] kj6 (fun kq v3 v28 w' => ∃ (x3_2 : Bool) (x28_2 : Int), v3 = .bool x3_2 ∧ v28 = .int .i64 x28_2 ∧ Aside0 (crossroadlaw01_AsciiValues.l0 kq a0 x3_2 t221 y223 (y223.length : Int) x28_2 = some r) ∧ Aside0 (kq ≤ kj6) ∧ Aside0 (Kd.V (Kd.int .u8) 5 w' w.heap.size (fun _ => True) (.slice Ao17 y223.length co17) y223) ∧ Aside0 (Below w.heap.size w w'))
              case atStart => exact ⟨(true), (0), (by first | rfl | (simp; done) | (simp [*]; done)), (by first | rfl | (simp; done) | (simp [*]; done)), H', ⟨Nat.le_refl _⟩, ⟨by (with_reducible repeat (first | apply Kd.V_alloc | apply Kd.V_drewN | apply Kd.V_drew)); exact HO225.out⟩, ⟨by repeat (first | (with_reducible first | exact HB.out | apply below_alloc | apply pw_below_drewN | apply below_drew1) | exact HB.out)⟩⟩
              case round =>
                clear H'
                try clear c1
                try clear p2
                try clear c3
                try clear c5
                try clear c10
                try clear c10b0
                try clear c10b1
                try clear c10b2
                try clear c11
                try clear c12
                try clear c13
                try clear c14
                try clear c17
                try clear p2
                obtain ⟨x3_2, x28_2, rfl, rfl, HA, HK2, HO_26, HB⟩ := hrel
                cases gk with
                | zero => exact absurd HA.out (by simp [crossroadlaw01_AsciiValues.l0])
                | succ k2 =>
                  have H := HA.out
                  clear HA
                  simp only [crossroadlaw01_AsciiValues.l0] at H
                  by_cases c18 : x28_2 < (y223.length : Int)
                  · rw [if_pos c18] at H
                    have c18b0 : decide (x28_2 < (y223.length : Int)) = true := decide_eq_true c18
                    clear c18
                    by_cases c19 : 0 ≤ x28_2
                    · rw [if_pos c19] at H
                      have c19b0 : decide (0 ≤ x28_2) = true := decide_eq_true c19
                      clear c19
                      by_cases c20 : x28_2 < (y223.length : Int)
                      · rw [if_pos c20] at H
                        have c20b0 : decide (x28_2 < (y223.length : Int)) = true := decide_eq_true c20
                        clear c20
                        have HC21 := Aside0.mk H
                        clear H
                        have p227 : 0 ≤ (x28_2 : Int) := of_decide_eq_true (by first | (with_reducible assumption) | assumption)
                        have q227 : x28_2 < (y223.length : Int) := of_decide_eq_true (by first | (with_reducible assumption) | assumption)
                        obtain ⟨ad227, e227, hx227_0⟩ := Kd.at_int (Kd.V_reads' HO_26.out).2.2 x28_2 p227 q227
                        cases e227
                        replace p227 := eq_true p227
                        replace q227 := eq_true q227
                        go_upto_region 12 with (fail)
                        go_cut [3] (fun v3 wc => ∃ (kq : Nat) (x3_20 : Bool), v3 = .bool x3_20 ∧ Aside0 (crossroadlaw01_AsciiValues.j2 kq a0 x3_20 t221 x28_2 (rd y223 x28_2) y223 (y223.length : Int) x28_2 = some r) ∧ Aside0 (kq ≤ k2) ∧ Aside0 (Kd.V (Kd.int .u8) 5 wc w.heap.size (fun _ => True) (.slice (some ad227) y223.length co17) y223) ∧ Aside0 (Below w.heap.size w wc))
                        case first =>
                          have H := HC21.out
                          clear HC21
                          by_cases c22 : x3_2 = true
                          · subst c22
                            have H1 : (if (rd y223 x28_2) ≥ 32 then (crossroadlaw01_AsciiValues.j2 k2 a0 ((rd y223 x28_2) != 127) t221 x28_2 (rd y223 x28_2) y223 (y223.length : Int) x28_2) else (if (rd y223 x28_2) = 9 then (crossroadlaw01_AsciiValues.j2 k2 a0 ((rd y223 x28_2) != 127) t221 x28_2 (rd y223 x28_2) y223 (y223.length : Int) x28_2) else (crossroadlaw01_AsciiValues.j2 k2 a0 false t221 x28_2 (rd y223 x28_2) y223 (y223.length : Int) x28_2))) = some r := by rw [if_pos rfl] at H; exact H
                            clear H
                            have H := H1
                            clear H1
                            by_cases c23 : (rd y223 x28_2) ≥ 32
                            · rw [if_pos c23] at H
                              have c23b0 : decide (32 ≤ (rd y223 x28_2)) = true := decide_eq_true c23
                              clear c23
                              (first | rw [c23b0] | (simp only [i64_w, i32_w]; rw [c23b0]) | skip)
                              have H' := Aside0.mk H
                              clear H
                              go_wp2
                              go_meet
                              case rel => exact ⟨_, (((rd y223 x28_2) != 127)), (by first | rfl | (simp; done) | (simp [*]; done)), H', ⟨by have := HJ6.out; have := HK2.out; first | omega | exact Nat.le_refl _⟩, ⟨by (with_reducible repeat (first | apply Kd.V_alloc | apply Kd.V_drewN | apply Kd.V_drew)); exact HO_26.out⟩, ⟨by repeat (first | (with_reducible first | exact HB.out | apply below_alloc | apply pw_below_drewN | apply below_drew1) | exact HB.out)⟩⟩
                            · rw [if_neg c23] at H
                              have c23b0 : decide (32 ≤ (rd y223 x28_2)) = false := decide_eq_false c23
                              clear c23
                              (first | rw [c23b0] | (simp only [i64_w, i32_w]; rw [c23b0]) | skip)
                              by_cases c24 : (rd y223 x28_2) = 9
                              · rw [if_pos c24] at H
                                have c24b0 : ((rd y223 x28_2) == 9) = true := beq_iff_eq.mpr c24
                                have c24b1 : ((rd y223 x28_2) != 9) = false := bne_eq_false_iff_eq.mpr c24
                                clear c24
                                have H' := Aside0.mk H
                                clear H
                                go_wp2
                                go_meet
                                case rel => exact ⟨_, (((rd y223 x28_2) != 127)), (by first | rfl | (simp; done) | (simp [*]; done)), H', ⟨by have := HJ6.out; have := HK2.out; first | omega | exact Nat.le_refl _⟩, ⟨by (with_reducible repeat (first | apply Kd.V_alloc | apply Kd.V_drewN | apply Kd.V_drew)); exact HO_26.out⟩, ⟨by repeat (first | (with_reducible first | exact HB.out | apply below_alloc | apply pw_below_drewN | apply below_drew1) | exact HB.out)⟩⟩
                              · rw [if_neg c24] at H
                                have c24b0 : ((rd y223 x28_2) == 9) = false := beq_eq_false_iff_ne.mpr c24
                                have c24b1 : ((rd y223 x28_2) != 9) = true := bne_iff_ne.mpr c24
                                have H' := Aside0.mk H
                                clear H
                                go_wp2
                                go_meet
                                case rel => exact ⟨_, (false), (by first | rfl | (simp; done) | (simp [*]; done)), H', ⟨by have := HJ6.out; have := HK2.out; first | omega | exact Nat.le_refl _⟩, ⟨by (with_reducible repeat (first | apply Kd.V_alloc | apply Kd.V_drewN | apply Kd.V_drew)); exact HO_26.out⟩, ⟨by repeat (first | (with_reducible first | exact HB.out | apply below_alloc | apply pw_below_drewN | apply below_drew1) | exact HB.out)⟩⟩
                          · replace c22 := Bool.eq_false_iff.mpr c22
                            subst c22
                            have H1 : (crossroadlaw01_AsciiValues.j2 k2 a0 false t221 x28_2 (rd y223 x28_2) y223 (y223.length : Int) x28_2) = some r := by rw [if_neg (show ¬ (false = true) by decide)] at H; exact H
                            clear H
                            have H := H1
                            clear H1
                            have H' := Aside0.mk H
                            clear H
                            go_wp2
                            go_meet
                            case rel => exact ⟨_, (false), (by first | rfl | (simp; done) | (simp [*]; done)), H', ⟨by have := HJ6.out; have := HK2.out; first | omega | exact Nat.le_refl _⟩, ⟨by (with_reducible repeat (first | apply Kd.V_alloc | apply Kd.V_drewN | apply Kd.V_drew)); exact HO_26.out⟩, ⟨by repeat (first | (with_reducible first | exact HB.out | apply below_alloc | apply pw_below_drewN | apply below_drew1) | exact HB.out)⟩⟩
                        case rest =>
                          clear HC21
                          try clear c1
                          try clear c2
                          try clear p2
                          try clear q2
                          try clear hx2
                          try clear c3
                          try clear c5
                          try clear c10
                          try clear c10b0
                          try clear c10b1
                          try clear c10b2
                          try clear c11
                          try clear c12
                          try clear c13
                          try clear c14
                          try clear c17
                          try clear c18
                          try clear c18b0
                          try clear c19
                          try clear c19b0
                          try clear c20
                          try clear c20b0
                          try clear c22
                          try clear p22
                          try clear q22
                          try clear hx22
                          try clear c23
                          try clear c23b0
                          try clear c24
                          try clear c24b0
                          try clear c24b1
                          try clear hx227_0
                          try clear p2
                          try clear p227
                          try clear q227
                          obtain ⟨kq, x3_20, rfl, HA, HJ20, HO_26, HB⟩ := hcut
                          cases kq with
                          | zero => exact absurd HA.out (by simp [crossroadlaw01_AsciiValues.j2])
                          | succ kj20 =>
                            have H := HA.out
                            clear HA
                            simp only [crossroadlaw01_AsciiValues.j2] at H
                            have HC25 := Aside0.mk H
                            clear H
                            go_upto_region 13 with (fail)
                            go_cut [51] (fun v51 wc => ∃ (kq : Nat) (x51_24 : Bool), v51 = .bool x51_24 ∧ Aside0 (crossroadlaw01_AsciiValues.j3 kq a0 x3_20 t221 x28_2 (rd y223 x28_2) y223 (y223.length : Int) x28_2 x51_24 = some r) ∧ Aside0 (kq ≤ kj20) ∧ Aside0 (Kd.V (Kd.int .u8) 5 wc w.heap.size (fun _ => True) (.slice (some ad227) y223.length co17) y223) ∧ Aside0 (Below w.heap.size w wc))
                            case first =>
                              have H := HC25.out
                              clear HC25
                              by_cases c26 : (rd y223 x28_2) ≥ 65
                              · rw [if_pos c26] at H
                                have c26b0 : decide (65 ≤ (rd y223 x28_2)) = true := decide_eq_true c26
                                clear c26
                                (first | rw [c26b0] | (simp only [i64_w, i32_w]; rw [c26b0]) | skip)
                                have H' := Aside0.mk H
                                clear H
                                go_wp2
                                go_meet
                                case rel => exact ⟨_, (decide ((rd y223 x28_2) ≤ 90)), (by first | rfl | (simp; done) | (simp [*]; done)), H', ⟨by have := HJ6.out; have := HK2.out; have := HJ20.out; first | omega | exact Nat.le_refl _⟩, ⟨by (with_reducible repeat (first | apply Kd.V_alloc | apply Kd.V_drewN | apply Kd.V_drew)); exact HO_26.out⟩, ⟨by repeat (first | (with_reducible first | exact HB.out | apply below_alloc | apply pw_below_drewN | apply below_drew1) | exact HB.out)⟩⟩
                              · rw [if_neg c26] at H
                                have c26b0 : decide (65 ≤ (rd y223 x28_2)) = false := decide_eq_false c26
                                clear c26
                                (first | rw [c26b0] | (simp only [i64_w, i32_w]; rw [c26b0]) | skip)
                                have H' := Aside0.mk H
                                clear H
                                go_wp2
                                go_meet
                                case rel => exact ⟨_, (false), (by first | rfl | (simp; done) | (simp [*]; done)), H', ⟨by have := HJ6.out; have := HK2.out; have := HJ20.out; first | omega | exact Nat.le_refl _⟩, ⟨by (with_reducible repeat (first | apply Kd.V_alloc | apply Kd.V_drewN | apply Kd.V_drew)); exact HO_26.out⟩, ⟨by repeat (first | (with_reducible first | exact HB.out | apply below_alloc | apply pw_below_drewN | apply below_drew1) | exact HB.out)⟩⟩
                            case rest =>
                              clear HC25
                              try clear c1
                              try clear c2
                              try clear p2
                              try clear q2
                              try clear hx2
                              try clear c3
                              try clear c5
                              try clear c10
                              try clear c10b0
                              try clear c10b1
                              try clear c10b2
                              try clear c11
                              try clear c12
                              try clear c13
                              try clear c14
                              try clear c17
                              try clear c18
                              try clear c18b0
                              try clear c19
                              try clear c19b0
                              try clear c20
                              try clear c20b0
                              try clear c22
                              try clear p22
                              try clear q22
                              try clear hx22
                              try clear c23
                              try clear c23b0
                              try clear c24
                              try clear c24b0
                              try clear c24b1
                              try clear c26
                              try clear c26b0
                              try clear hx227_0
                              try clear p2
                              try clear p22
                              try clear p227
                              try clear q2
                              try clear q22
                              try clear q227
                              obtain ⟨kq, x51_24, rfl, HA, HJ24, HO_26, HB⟩ := hcut
                              cases kq with
                              | zero => exact absurd HA.out (by simp [crossroadlaw01_AsciiValues.j3])
                              | succ kj24 =>
                                have H := HA.out
                                clear HA
                                simp only [crossroadlaw01_AsciiValues.j3] at H
                                by_cases c27 : x51_24 = true
                                · subst c27
                                  have H1 : (if 0 ≤ x28_2 then (if x28_2 < (t221.size : Int) then (if (bt t221 x28_2) = (((rd y223 x28_2) + 32) % 256) then (crossroadlaw01_AsciiValues.l0 kj24 a0 x3_20 t221 y223 (y223.length : Int) (wrap64 (x28_2 + 1))) else (some false)) else (none)) else (none)) = some r := by rw [if_pos rfl] at H; exact H
                                  clear H
                                  have H := H1
                                  clear H1
                                  by_cases c28 : 0 ≤ x28_2
                                  · rw [if_pos c28] at H
                                    have c28b0 : decide (0 ≤ x28_2) = true := decide_eq_true c28
                                    clear c28
                                    by_cases c29 : x28_2 < (t221.size : Int)
                                    · rw [if_pos c29] at H
                                      have c29b0 : decide (x28_2 < (t221.size : Int)) = true := decide_eq_true c29
                                      clear c29
                                      by_cases c31 : (bt t221 x28_2) = (((rd y223 x28_2) + 32) % 256)
                                      · rw [if_pos c31] at H
                                        have c31b0 : ((bt t221 x28_2) == (((rd y223 x28_2) + 32) % 256)) = true := beq_iff_eq.mpr c31
                                        have c31b1 : ((bt t221 x28_2) != (((rd y223 x28_2) + 32) % 256)) = false := bne_eq_false_iff_eq.mpr c31
                                        clear c31
                                        have H' := Aside0.mk H
                                        clear H
                                        have p30 : 0 ≤ (x28_2 : Int) := of_decide_eq_true (by first | (with_reducible assumption) | assumption)
                                        have q30 : x28_2 < (t221.size : Int) := of_decide_eq_true (by first | (with_reducible assumption) | assumption)
                                        have hx30 := bt_at t221 x28_2
                                        replace p30 := eq_true p30
                                        replace q30 := eq_true q30
                                        go_wp2
                                        go_roundg kj24
                                        case measure => have := HJ6.out; have := HK2.out; have := HJ20.out; have := HJ24.out; omega
                                        case rel => exact ⟨(x3_20), (wrap64 (x28_2 + 1)), (by first | rfl | (simp; done) | (simp [*]; done)), (by first | rfl | (simp; done) | (simp [*]; done)), H', ⟨by have := HJ6.out; have := HK2.out; have := HJ20.out; have := HJ24.out; omega⟩, ⟨by (with_reducible repeat (first | apply Kd.V_alloc | apply Kd.V_drewN | apply Kd.V_drew)); exact HO_26.out⟩, ⟨by repeat (first | (with_reducible first | exact HB.out | apply below_alloc | apply pw_below_drewN | apply below_drew1) | exact HB.out)⟩⟩
                                      · rw [if_neg c31] at H
                                        have c31b0 : ((bt t221 x28_2) == (((rd y223 x28_2) + 32) % 256)) = false := beq_eq_false_iff_ne.mpr c31
                                        have c31b1 : ((bt t221 x28_2) != (((rd y223 x28_2) + 32) % 256)) = true := bne_iff_ne.mpr c31
                                        obtain rfl := Option.some.inj H
                                        have p30 : 0 ≤ (x28_2 : Int) := of_decide_eq_true (by first | (with_reducible assumption) | assumption)
                                        have q30 : x28_2 < (t221.size : Int) := of_decide_eq_true (by first | (with_reducible assumption) | assumption)
                                        have hx30 := bt_at t221 x28_2
                                        replace p30 := eq_true p30
                                        replace q30 := eq_true q30
                                        go_wp2
                                        go_ret
                                        exact ⟨by first | rfl | (simp [errW_none, errW_some] <;> rfl) | (simp [*, errW_none, errW_some] <;> rfl), by repeat (first | (with_reducible first | exact HB.out | apply below_alloc | apply pw_below_drewN | apply below_drew1) | exact HB.out)⟩
                                    · rw [if_neg c29] at H
                                      exact absurd H (by simp)
                                  · rw [if_neg c28] at H
                                    exact absurd H (by simp)
                                · replace c27 := Bool.eq_false_iff.mpr c27
                                  subst c27
                                  have H1 : (if 0 ≤ x28_2 then (if x28_2 < (t221.size : Int) then (if (bt t221 x28_2) = (rd y223 x28_2) then (crossroadlaw01_AsciiValues.l0 kj24 a0 x3_20 t221 y223 (y223.length : Int) (wrap64 (x28_2 + 1))) else (some false)) else (none)) else (none)) = some r := by rw [if_neg (show ¬ (false = true) by decide)] at H; exact H
                                  clear H
                                  have H := H1
                                  clear H1
                                  by_cases c32 : 0 ≤ x28_2
                                  · rw [if_pos c32] at H
                                    have c32b0 : decide (0 ≤ x28_2) = true := decide_eq_true c32
                                    clear c32
                                    by_cases c33 : x28_2 < (t221.size : Int)
                                    · rw [if_pos c33] at H
                                      have c33b0 : decide (x28_2 < (t221.size : Int)) = true := decide_eq_true c33
                                      clear c33
                                      by_cases c35 : (bt t221 x28_2) = (rd y223 x28_2)
                                      · rw [if_pos c35] at H
                                        have c35b0 : ((bt t221 x28_2) == (rd y223 x28_2)) = true := beq_iff_eq.mpr c35
                                        have c35b1 : ((bt t221 x28_2) != (rd y223 x28_2)) = false := bne_eq_false_iff_eq.mpr c35
                                        clear c35
                                        have H' := Aside0.mk H
                                        clear H
                                        have p34 : 0 ≤ (x28_2 : Int) := of_decide_eq_true (by first | (with_reducible assumption) | assumption)
                                        have q34 : x28_2 < (t221.size : Int) := of_decide_eq_true (by first | (with_reducible assumption) | assumption)
                                        have hx34 := bt_at t221 x28_2
                                        replace p34 := eq_true p34
                                        replace q34 := eq_true q34
                                        go_wp2
                                        go_roundg kj24
                                        case measure => have := HJ6.out; have := HK2.out; have := HJ20.out; have := HJ24.out; omega
                                        case rel => exact ⟨(x3_20), (wrap64 (x28_2 + 1)), (by first | rfl | (simp; done) | (simp [*]; done)), (by first | rfl | (simp; done) | (simp [*]; done)), H', ⟨by have := HJ6.out; have := HK2.out; have := HJ20.out; have := HJ24.out; omega⟩, ⟨by (with_reducible repeat (first | apply Kd.V_alloc | apply Kd.V_drewN | apply Kd.V_drew)); exact HO_26.out⟩, ⟨by repeat (first | (with_reducible first | exact HB.out | apply below_alloc | apply pw_below_drewN | apply below_drew1) | exact HB.out)⟩⟩
                                      · rw [if_neg c35] at H
                                        have c35b0 : ((bt t221 x28_2) == (rd y223 x28_2)) = false := beq_eq_false_iff_ne.mpr c35
                                        have c35b1 : ((bt t221 x28_2) != (rd y223 x28_2)) = true := bne_iff_ne.mpr c35
                                        obtain rfl := Option.some.inj H
                                        have p34 : 0 ≤ (x28_2 : Int) := of_decide_eq_true (by first | (with_reducible assumption) | assumption)
                                        have q34 : x28_2 < (t221.size : Int) := of_decide_eq_true (by first | (with_reducible assumption) | assumption)
                                        have hx34 := bt_at t221 x28_2
                                        replace p34 := eq_true p34
                                        replace q34 := eq_true q34
                                        go_wp2
                                        go_ret
                                        exact ⟨by first | rfl | (simp [errW_none, errW_some] <;> rfl) | (simp [*, errW_none, errW_some] <;> rfl), by repeat (first | (with_reducible first | exact HB.out | apply below_alloc | apply pw_below_drewN | apply below_drew1) | exact HB.out)⟩
                                    · rw [if_neg c33] at H
                                      exact absurd H (by simp)
                                  · rw [if_neg c32] at H
                                    exact absurd H (by simp)
                      · rw [if_neg c20] at H
                        exact absurd H (by simp)
                    · rw [if_neg c19] at H
                      exact absurd H (by simp)
                  · rw [if_neg c18] at H
                    have c18b0 : decide (x28_2 < (y223.length : Int)) = false := decide_eq_false c18
                    clear c18
                    replace H := Option.bind_eq_some_iff.mp H
                    obtain ⟨t226, A360, H⟩ := H
                    replace H : (some (t226 == x3_2)) = some r := H
                    have A36 := Aside0.mk A360
                    clear A360
                    obtain rfl := Option.some.inj H
                    go_wp2_with (first | ((with_reducible refine gate_callee (f := 18) rfl ?_); refine goesL_ (some 61) rfl rfl Try.func18 (by kernel_rfl) rfl #[.string a0] rfl (by (try simp only [List.map_toArray, List.map_cons, List.map_nil]); first | done | rfl | (simp only [List.length_drop, List.length_take]; rfl)) ?_; (with_reducible refine (ascii_Value.calls a0 t226 _ A36.out).mono ?_); rintro e w37 ⟨rfl, hb⟩; refine ⟨_, rfl, ?_⟩; have n0_ := Aside0.mk (Kd.V_below (by (with_reducible repeat (first | apply Kd.V_alloc | apply Kd.V_drewN | apply Kd.V_drew)); exact HO_26.out) hb); have n1_ := Aside0.mk (below_step (by repeat (first | (with_reducible first | exact HB.out | apply below_alloc | apply pw_below_drewN | apply below_drew1) | exact HB.out)) hb); clear HO_26; clear HB; have HO_26 := n0_; have HB := n1_; clear n0_ n1_; (try clear hb); (try clear hb2); (try clear hk); (try clear hi)))
                    go_ret
                    exact ⟨by first | rfl | (simp [errW_none, errW_some] <;> rfl) | (simp [*, errW_none, errW_some] <;> rfl), by repeat (first | (with_reducible first | exact HB.out | apply below_alloc | apply pw_below_drewN | apply below_drew1) | exact HB.out)⟩
            · rw [if_neg c14] at H
              exact absurd H (by simp)
    · replace c5 := Bool.eq_false_iff.mpr c5
      subst c5
      have H1 : (some true) = some r := by rw [if_neg (show ¬ (false = true) by decide)] at H; exact H
      clear H
      have H := H1
      clear H1
      obtain rfl := Option.some.inj H
      go_enter Try.func10, Try.ntmps10
      go_wp2_with (first | ((with_reducible refine gate_callee (f := 11) rfl ?_); refine goesL_ (some 7) rfl rfl Try.func11 (by kernel_rfl) rfl #[] rfl (by (try simp only [List.map_toArray, List.map_cons, List.map_nil]); first | done | rfl | (simp only [List.length_drop, List.length_take]; rfl)) ?_; (with_reducible refine (crossroadlaw01_fit.calls k  true _ A2.out).mono ?_); rintro e w38 ⟨rfl, hb⟩; refine ⟨_, rfl, ?_⟩; have n0_ := Aside0.mk (below_step (by repeat (first | (with_reducible first | exact HB.out | apply below_alloc | apply pw_below_drewN | apply below_drew1) | exact HB.out)) hb); clear HB; have HB := n0_; clear n0_; (try clear hb); (try clear hb2); (try clear hk); (try clear hi)) | ((with_reducible refine gate_callee (f := 12) rfl ?_); refine goesL_ (some 10) rfl rfl Try.func12 (by kernel_rfl) rfl #[.string a0] rfl (by (try simp only [List.map_toArray, List.map_cons, List.map_nil]); first | done | rfl | (simp only [List.length_drop, List.length_take]; rfl)) ?_; (with_reducible refine (crossroadlaw01_light.calls a0 false _ A4.out).mono ?_); rintro e w' ⟨rfl, ⟨nd, rfl⟩⟩; refine ⟨_, rfl, ?_⟩))
      go_ret
      exact ⟨by first | rfl | (simp [errW_none, errW_some] <;> rfl) | (simp [*, errW_none, errW_some] <;> rfl), by repeat (first | (with_reducible first | exact HB.out | apply below_alloc | apply pw_below_drewN | apply below_drew1) | exact HB.out)⟩
  · replace c3 := Bool.eq_false_iff.mpr c3
    subst c3
    have H1 : (some false) = some r := by rw [if_neg (show ¬ (false = true) by decide)] at H; exact H
    clear H
    have H := H1
    clear H1
    obtain rfl := Option.some.inj H
    go_enter Try.func10, Try.ntmps10
    go_wp2_with (first | ((with_reducible refine gate_callee (f := 11) rfl ?_); refine goesL_ (some 7) rfl rfl Try.func11 (by kernel_rfl) rfl #[] rfl (by (try simp only [List.map_toArray, List.map_cons, List.map_nil]); first | done | rfl | (simp only [List.length_drop, List.length_take]; rfl)) ?_; (with_reducible refine (crossroadlaw01_fit.calls k  false _ A2.out).mono ?_); rintro e w39 ⟨rfl, hb⟩; refine ⟨_, rfl, ?_⟩; have n0_ := Aside0.mk (below_step (by repeat (first | (with_reducible first | exact HB.out | apply below_alloc | apply pw_below_drewN | apply below_drew1) | exact HB.out)) hb); clear HB; have HB := n0_; clear n0_; (try clear hb); (try clear hb2); (try clear hk); (try clear hi)))
    go_ret
    exact ⟨by first | rfl | (simp [errW_none, errW_some] <;> rfl) | (simp [*, errW_none, errW_some] <;> rfl), by repeat (first | (with_reducible first | exact HB.out | apply below_alloc | apply pw_below_drewN | apply below_drew1) | exact HB.out)⟩

/-- THE ONE PURE STATEMENT of crossroadlaw01_AsciiValues: yours. -/
def crossroadlaw01_AsciiValues.Pure : Prop := ∀ (a0 : ByteArray), a0.size ≤ 140737488351232 → ∃ k, crossroadlaw01_AsciiValues.f k a0 = some true
theorem crossroadlaw01_AsciiValues.walk (P : crossroadlaw01_AsciiValues.Pure) (a0 : ByteArray) (w : World) (w0 : a0.size ≤ 140737488351232) :
    Calls Try.prog 10 #[.string a0] w fun e w' => e = .returned (.bool true) ∧ Below w.heap.size w w' := by
  obtain ⟨k, h⟩ := P a0 w0
  refine (crossroadlaw01_AsciiValues.calls k a0 true w h).mono ?_
  rintro e w' ⟨rfl, hd⟩
  exact ⟨rfl, hd⟩

end Go.Proofs.Ytlkknhojfhbopaa.X

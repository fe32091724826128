-- Written for this claim by a program of this session (wip/xprint.py). Not trusted: Lean checks it.
import Derived.Test.YtlkknhojfhbopaaX0
import Derived.Test.YtlkknhojfhbopaaX1
import Derived.Test.YtlkknhojfhbopaaX3
import Derived.Test.YtlkknhojfhbopaaX10
namespace Go.Proofs.Ytlkknhojfhbopaa.X
open Go.RowKit Go.Proofs.YtlkknhojfhbopaaW.PrintWords Go.Proofs.YtlkknhojfhbopaaW.PrintLast Go.Proofs.YtlkknhojfhbopaaW.PrintMore
attribute [local go_sem] max2_int min2_int max_two min_two max_three min_three max_four min_four   -- for this text's walks alone
set_option linter.unusedVariables false
set_option linter.unusedSimpArgs false

/-! ### crossroadlaw01_AsciiJoins: function 8 -/
mutual
def crossroadlaw01_AsciiJoins.j0 : Nat → ByteArray → ByteArray → Int → Bool → Option (Bool)
  | 0, _, _, _, _ => none
  | k + 1, x0, x1, x2, x18 => if x18 = true then (some true) else ((ascii_Token.f k x0).bind fun t159 => (if t159 = true then ((ascii_Token.f k x1).bind fun t160 => (crossroadlaw01_AsciiJoins.j1 k x0 x1 x2 t160)) else (crossroadlaw01_AsciiJoins.j1 k x0 x1 x2 false)))
def crossroadlaw01_AsciiJoins.j1 : Nat → ByteArray → ByteArray → Int → Bool → Option (Bool)
  | 0, _, _, _, _ => none
  | k + 1, x0, x1, x2, x7 => (some (([x2] : List Int) : List Int)).bind fun y161 => (if x7 = true then (if x0.size + x1.size ≤ 9223372036854775807 then ((ascii_Token.f k (x0 ++ x1)).bind fun t164 => (if t164 = true then (if x0.size + (strOfNums y161).size ≤ 9223372036854775807 then (if (x0 ++ (strOfNums y161)).size + x1.size ≤ 9223372036854775807 then ((ascii_Token.f k ((x0 ++ (strOfNums y161)) ++ x1)).bind fun t165 => ((ascii_Token.f k x0).bind fun t166 => (if t166 = true then ((ascii_Token.f k (strOfNums y161)).bind fun t167 => (if t167 = true then ((ascii_Token.f k x1).bind fun t168 => (if t168 = true then (if (t165 == true) = true then ((ascii_Lower.f x0).bind fun t169 => ((ascii_Token.f k t169).bind fun t170 => (some (t170 == t166)))) else (some false)) else (if (t165 == (x1.toList.isEmpty)) = true then ((ascii_Lower.f x0).bind fun t171 => ((ascii_Token.f k t171).bind fun t172 => (some (t172 == t166)))) else (some false)))) else (if (t165 == false) = true then ((ascii_Lower.f x0).bind fun t173 => ((ascii_Token.f k t173).bind fun t174 => (some (t174 == t166)))) else (some false)))) else (if x0.toList = ([] : List UInt8) then ((ascii_Token.f k (strOfNums y161)).bind fun t175 => (if t175 = true then ((ascii_Token.f k x1).bind fun t176 => (if t176 = true then (if (t165 == true) = true then ((ascii_Lower.f x0).bind fun t177 => ((ascii_Token.f k t177).bind fun t178 => (some (t178 == t166)))) else (some false)) else (if (t165 == (x1.toList.isEmpty)) = true then ((ascii_Lower.f x0).bind fun t179 => ((ascii_Token.f k t179).bind fun t180 => (some (t180 == t166)))) else (some false)))) else (if (t165 == false) = true then ((ascii_Lower.f x0).bind fun t181 => ((ascii_Token.f k t181).bind fun t182 => (some (t182 == t166)))) else (some false)))) else (if (t165 == false) = true then ((ascii_Lower.f x0).bind fun t183 => ((ascii_Token.f k t183).bind fun t184 => (some (t184 == t166)))) else (some false)))))) else (none)) else (none)) else (some false))) else (none)) else (if x0.size + (strOfNums y161).size ≤ 9223372036854775807 then (if (x0 ++ (strOfNums y161)).size + x1.size ≤ 9223372036854775807 then ((ascii_Token.f k ((x0 ++ (strOfNums y161)) ++ x1)).bind fun t185 => ((ascii_Token.f k x0).bind fun t186 => (if t186 = true then ((ascii_Token.f k (strOfNums y161)).bind fun t187 => (if t187 = true then ((ascii_Token.f k x1).bind fun t188 => (if t188 = true then (if (t185 == true) = true then ((ascii_Lower.f x0).bind fun t189 => ((ascii_Token.f k t189).bind fun t190 => (some (t190 == t186)))) else (some false)) else (if (t185 == (x1.toList.isEmpty)) = true then ((ascii_Lower.f x0).bind fun t191 => ((ascii_Token.f k t191).bind fun t192 => (some (t192 == t186)))) else (some false)))) else (if (t185 == false) = true then ((ascii_Lower.f x0).bind fun t193 => ((ascii_Token.f k t193).bind fun t194 => (some (t194 == t186)))) else (some false)))) else (if x0.toList = ([] : List UInt8) then ((ascii_Token.f k (strOfNums y161)).bind fun t195 => (if t195 = true then ((ascii_Token.f k x1).bind fun t196 => (if t196 = true then (if (t185 == true) = true then ((ascii_Lower.f x0).bind fun t197 => ((ascii_Token.f k t197).bind fun t198 => (some (t198 == t186)))) else (some false)) else (if (t185 == (x1.toList.isEmpty)) = true then ((ascii_Lower.f x0).bind fun t199 => ((ascii_Token.f k t199).bind fun t200 => (some (t200 == t186)))) else (some false)))) else (if (t185 == false) = true then ((ascii_Lower.f x0).bind fun t201 => ((ascii_Token.f k t201).bind fun t202 => (some (t202 == t186)))) else (some false)))) else (if (t185 == false) = true then ((ascii_Lower.f x0).bind fun t203 => ((ascii_Token.f k t203).bind fun t204 => (some (t204 == t186)))) else (some false)))))) else (none)) else (none)))
end
def crossroadlaw01_AsciiJoins.f (k : Nat) (a0 : ByteArray) (a1 : ByteArray) (a2 : Int) : Option (Bool) := (crossroadlaw01_fit.f k).bind fun t156 => (if t156 = true then ((crossroadlaw01_light.f a0).bind fun t157 => (if t157 = true then ((crossroadlaw01_light.f a1).bind fun t158 => (crossroadlaw01_AsciiJoins.j0 k a0 a1 a2 (!t158))) else (crossroadlaw01_AsciiJoins.j0 k a0 a1 a2 true))) else (some false))
theorem crossroadlaw01_AsciiJoins.mono_l : ∀ k, (∀ y0 y1 y2 y3, LeO (crossroadlaw01_AsciiJoins.j0 k y0 y1 y2 y3) (crossroadlaw01_AsciiJoins.j0 (k + 1) y0 y1 y2 y3)) ∧ (∀ y0 y1 y2 y3, LeO (crossroadlaw01_AsciiJoins.j1 k y0 y1 y2 y3) (crossroadlaw01_AsciiJoins.j1 (k + 1) y0 y1 y2 y3))
  | 0 => ⟨fun _ _ _ _ r h => by simp [crossroadlaw01_AsciiJoins.j0] at h, fun _ _ _ _ r h => by simp [crossroadlaw01_AsciiJoins.j1] at h⟩
  | k + 1 => by
    obtain ⟨ih0, ih1⟩ := crossroadlaw01_AsciiJoins.mono_l k
    refine ⟨?_, ?_⟩
    · intro y0 y1 y2 y3
      unfold crossroadlaw01_AsciiJoins.j0
      repeat' first
      | (with_reducible exact ih0 _ _ _ _)
      | (with_reducible exact ih1 _ _ _ _)
      | (with_reducible exact ascii_Token.mono _ _)
      | (with_reducible exact crossroadlaw01_fit.mono _)
      | (with_reducible exact LeO.refl _)
      | (with_reducible exact LeO.none _)
      | (with_reducible refine LeO.ite ?_ ?_)
      | (with_reducible refine LeO.bind ?_ (fun _ => ?_))
      | exact ih0 _ _ _ _
      | exact ih1 _ _ _ _
      | exact ascii_Token.mono _ _
      | exact crossroadlaw01_fit.mono _
      | exact LeO.none _
      | refine LeO.ite ?_ ?_
      | refine LeO.bind ?_ (fun _ => ?_)
    · intro y0 y1 y2 y3
      unfold crossroadlaw01_AsciiJoins.j1
      repeat' first
      | (with_reducible exact ih0 _ _ _ _)
      | (with_reducible exact ih1 _ _ _ _)
      | (with_reducible exact ascii_Token.mono _ _)
      | (with_reducible exact crossroadlaw01_fit.mono _)
      | (with_reducible exact LeO.refl _)
      | (with_reducible exact LeO.none _)
      | (with_reducible refine LeO.ite ?_ ?_)
      | (with_reducible refine LeO.bind ?_ (fun _ => ?_))
      | exact ih0 _ _ _ _
      | exact ih1 _ _ _ _
      | exact ascii_Token.mono _ _
      | exact crossroadlaw01_fit.mono _
      | exact LeO.none _
      | refine LeO.ite ?_ ?_
      | refine LeO.bind ?_ (fun _ => ?_)
theorem crossroadlaw01_AsciiJoins.mono : ∀ a0 a1 a2 k, LeO (crossroadlaw01_AsciiJoins.f k a0 a1 a2) (crossroadlaw01_AsciiJoins.f (k + 1) a0 a1 a2) := by
  intro a0 a1 a2 k
  obtain ⟨ih0, ih1⟩ := crossroadlaw01_AsciiJoins.mono_l k
  unfold crossroadlaw01_AsciiJoins.f
  repeat' first
      | (with_reducible exact ih0 _ _ _ _)
      | (with_reducible exact ih1 _ _ _ _)
      | (with_reducible exact ascii_Token.mono _ _)
      | (with_reducible exact crossroadlaw01_fit.mono _)
      | (with_reducible exact LeO.refl _)
      | (with_reducible exact LeO.none _)
      | (with_reducible refine LeO.ite ?_ ?_)
      | (with_reducible refine LeO.bind ?_ (fun _ => ?_))
      | exact ih0 _ _ _ _
      | exact ih1 _ _ _ _
      | exact ascii_Token.mono _ _
      | exact crossroadlaw01_fit.mono _
      | exact LeO.none _
      | refine LeO.ite ?_ ?_
      | refine LeO.bind ?_ (fun _ => ?_)
set_option maxHeartbeats 8000000 in
set_option maxRecDepth 100000 in
theorem crossroadlaw01_AsciiJoins.calls (k : Nat) (a0 : ByteArray) (a1 : ByteArray) (a2 : Int) (r : Bool) (w : World) (h : crossroadlaw01_AsciiJoins.f k a0 a1 a2 = some r) :
    Calls Try.prog 8 #[.string a0, .string a1, .int .u8 a2] w fun e w' => e = .returned (.bool r) ∧ Below w.heap.size w w' := by
  have HB := Aside0.mk (Below.refl w.heap.size w)
  have H : ((crossroadlaw01_fit.f k).bind fun t156 => (if t156 = true then ((crossroadlaw01_light.f a0).bind fun t157 => (if t157 = true then ((crossroadlaw01_light.f a1).bind fun t158 => (crossroadlaw01_AsciiJoins.j0 k a0 a1 a2 (!t158))) else (crossroadlaw01_AsciiJoins.j0 k a0 a1 a2 true))) else (some false))) = some r := h
  clear h
  replace H := Option.bind_eq_some_iff.mp H
  obtain ⟨t156, A40, H⟩ := H
  replace H : (if t156 = true then ((crossroadlaw01_light.f a0).bind fun t157 => (if t157 = true then ((crossroadlaw01_light.f a1).bind fun t158 => (crossroadlaw01_AsciiJoins.j0 k a0 a1 a2 (!t158))) else (crossroadlaw01_AsciiJoins.j0 k a0 a1 a2 true))) else (some false)) = some r := H
  have A4 := Aside0.mk A40
  clear A40
  by_cases c5 : t156 = true
  · subst c5
    have H1 : ((crossroadlaw01_light.f a0).bind fun t157 => (if t157 = true then ((crossroadlaw01_light.f a1).bind fun t158 => (crossroadlaw01_AsciiJoins.j0 k a0 a1 a2 (!t158))) else (crossroadlaw01_AsciiJoins.j0 k a0 a1 a2 true))) = some r := by rw [if_pos rfl] at H; exact H
    clear H
    have H := H1
    clear H1
    have HC6 := Aside0.mk H
    clear H
    go_enter Try.func8, Try.ntmps8
    go_upto_region 3 with (first | ((with_reducible refine gate_callee (f := 11) rfl ?_); refine goesL_ (some 9) rfl rfl Try.func11 (by kernel_rfl) rfl #[] rfl (by (try simp only [List.map_toArray, List.map_cons, List.map_nil]); first | done | rfl | (simp only [List.length_drop, List.length_take]; rfl)) ?_; (with_reducible refine (crossroadlaw01_fit.calls k  true _ A4.out).mono ?_); rintro e w7 ⟨rfl, hb⟩; refine ⟨_, rfl, ?_⟩; have n0_ := Aside0.mk (below_step (by repeat (first | (with_reducible first | exact HB.out | apply below_alloc | apply pw_below_drewN | apply below_drew1) | exact HB.out)) hb); clear HB; have HB := n0_; clear n0_; (try clear hb); (try clear hb2); (try clear hk); (try clear hi)))
    (try simp only [Act.put, List.setIfInBounds_toArray, List.set_cons_zero, List.set_cons_succ])
    go_cut [18] (fun v18 wc => ∃ (kq : Nat) (x18_5 : Bool), v18 = .bool x18_5 ∧ Aside0 (crossroadlaw01_AsciiJoins.j0 kq a0 a1 a2 x18_5 = some r) ∧ Aside0 (kq ≤ k) ∧ Aside0 (Below w.heap.size w wc))
    case first =>
      have H := HC6.out
      clear HC6
      replace H := Option.bind_eq_some_iff.mp H
      obtain ⟨t157, A80, H⟩ := H
      replace H : (if t157 = true then ((crossroadlaw01_light.f a1).bind fun t158 => (crossroadlaw01_AsciiJoins.j0 k a0 a1 a2 (!t158))) else (crossroadlaw01_AsciiJoins.j0 k a0 a1 a2 true)) = some r := H
      have A8 := Aside0.mk A80
      clear A80
      by_cases c9 : t157 = true
      · subst c9
        have H1 : ((crossroadlaw01_light.f a1).bind fun t158 => (crossroadlaw01_AsciiJoins.j0 k a0 a1 a2 (!t158))) = some r := by rw [if_pos rfl] at H; exact H
        clear H
        have H := H1
        clear H1
        replace H := Option.bind_eq_some_iff.mp H
        obtain ⟨t158, A100, H⟩ := H
        replace H : (crossroadlaw01_AsciiJoins.j0 k a0 a1 a2 (!t158)) = some r := H
        have A10 := Aside0.mk A100
        clear A100
        have H' := Aside0.mk H
        clear H
        go_wp2_with (first | ((with_reducible refine gate_callee (f := 12) rfl ?_); refine goesL_ (some 12) rfl rfl Try.func12 (by kernel_rfl) rfl #[.string a0] rfl (by (try simp only [List.map_toArray, List.map_cons, List.map_nil]); first | done | rfl | (simp only [List.length_drop, List.length_take]; rfl)) ?_; (with_reducible refine (crossroadlaw01_light.calls a0 true _ A8.out).mono ?_); rintro e w' ⟨rfl, ⟨nd, rfl⟩⟩; refine ⟨_, rfl, ?_⟩) | (go_at_call 12; (with_reducible refine (crossroadlaw01_light.calls a1 t158 _ A10.out).mono ?_); rintro e w' ⟨rfl, ⟨nd, rfl⟩⟩))
        go_meet
        case rel => exact ⟨_, (!t158), (by first | rfl | (simp; done) | (simp [*]; done)), H', ⟨by first | omega | exact Nat.le_refl _⟩, ⟨by repeat (first | (with_reducible first | exact HB.out | apply below_alloc | apply pw_below_drewN | apply below_drew1) | exact HB.out)⟩⟩
      · replace c9 := Bool.eq_false_iff.mpr c9
        subst c9
        have H1 : (crossroadlaw01_AsciiJoins.j0 k a0 a1 a2 true) = some r := by rw [if_neg (show ¬ (false = true) by decide)] at H; exact H
        clear H
        have H := H1
        clear H1
        have H' := Aside0.mk H
        clear H
        go_wp2_with (first | ((with_reducible refine gate_callee (f := 12) rfl ?_); refine goesL_ (some 12) rfl rfl Try.func12 (by kernel_rfl) rfl #[.string a0] rfl (by (try simp only [List.map_toArray, List.map_cons, List.map_nil]); first | done | rfl | (simp only [List.length_drop, List.length_take]; rfl)) ?_; (with_reducible refine (crossroadlaw01_light.calls a0 false _ A8.out).mono ?_); rintro e w' ⟨rfl, ⟨nd, rfl⟩⟩; refine ⟨_, rfl, ?_⟩))
        go_meet
        case rel => exact ⟨_, (true), (by first | rfl | (simp; done) | (simp [*]; done)), H', ⟨by first | omega | exact Nat.le_refl _⟩, ⟨by repeat (first | (with_reducible first | exact HB.out | apply below_alloc | apply pw_below_drewN | apply below_drew1) | exact HB.out)⟩⟩
    case rest =>
      clear HC6
      try clear c1
      try clear p2
      try clear c5
      try clear c8
      try clear c9
      obtain ⟨kq, x18_5, rfl, HA, HJ5, HB⟩ := hcut
      cases kq with
      | zero => exact absurd HA.out (by simp [crossroadlaw01_AsciiJoins.j0])
      | succ kj5 =>
        have H := HA.out
        clear HA
        simp only [crossroadlaw01_AsciiJoins.j0] at H
        by_cases c11 : x18_5 = true
        · subst c11
          have H1 : (some true) = some r := by rw [if_pos rfl] at H; exact H
          clear H
          have H := H1
          clear H1
          obtain rfl := Option.some.inj H
          go_wp2
          go_ret
          exact ⟨by first | rfl | (simp [errW_none, errW_some] <;> rfl) | (simp [*, errW_none, errW_some] <;> rfl), by repeat (first | (with_reducible first | exact HB.out | apply below_alloc | apply pw_below_drewN | apply below_drew1) | exact HB.out)⟩
        · replace c11 := Bool.eq_false_iff.mpr c11
          subst c11
          have H1 : ((ascii_Token.f kj5 a0).bind fun t159 => (if t159 = true then ((ascii_Token.f kj5 a1).bind fun t160 => (crossroadlaw01_AsciiJoins.j1 kj5 a0 a1 a2 t160)) else (crossroadlaw01_AsciiJoins.j1 kj5 a0 a1 a2 false))) = some r := by rw [if_neg (show ¬ (false = true) by decide)] at H; exact H
          clear H
          have H := H1
          clear H1
          have HC12 := Aside0.mk H
          clear H
          go_upto_region 5 with (fail)
          go_cut [7] (fun v7 wc => ∃ (kq : Nat) (x7_11 : Bool), v7 = .bool x7_11 ∧ Aside0 (crossroadlaw01_AsciiJoins.j1 kq a0 a1 a2 x7_11 = some r) ∧ Aside0 (kq ≤ kj5) ∧ Aside0 (Below w.heap.size w wc))
          case first =>
            have H := HC12.out
            clear HC12
            replace H := Option.bind_eq_some_iff.mp H
            obtain ⟨t159, A130, H⟩ := H
            replace H : (if t159 = true then ((ascii_Token.f kj5 a1).bind fun t160 => (crossroadlaw01_AsciiJoins.j1 kj5 a0 a1 a2 t160)) else (crossroadlaw01_AsciiJoins.j1 kj5 a0 a1 a2 false)) = some r := H
            have A13 := Aside0.mk A130
            clear A130
            by_cases c14 : t159 = true
            · subst c14
              have H1 : ((ascii_Token.f kj5 a1).bind fun t160 => (crossroadlaw01_AsciiJoins.j1 kj5 a0 a1 a2 t160)) = some r := by rw [if_pos rfl] at H; exact H
              clear H
              have H := H1
              clear H1
              replace H := Option.bind_eq_some_iff.mp H
              obtain ⟨t160, A150, H⟩ := H
              replace H : (crossroadlaw01_AsciiJoins.j1 kj5 a0 a1 a2 t160) = some r := H
              have A15 := Aside0.mk A150
              clear A150
              have H' := Aside0.mk H
              clear H
              go_wp2_with (first | ((with_reducible refine gate_callee (f := 13) rfl ?_); refine goesL_ (some 20) rfl rfl Try.func13 (by kernel_rfl) rfl #[.string a0] rfl (by (try simp only [List.map_toArray, List.map_cons, List.map_nil]); first | done | rfl | (simp only [List.length_drop, List.length_take]; rfl)) ?_; (with_reducible refine (ascii_Token.calls kj5 a0 true _ A13.out).mono ?_); rintro e w' ⟨rfl, ⟨nd, rfl⟩⟩; refine ⟨_, rfl, ?_⟩) | (go_at_call 13; (with_reducible refine (ascii_Token.calls kj5 a1 t160 _ A15.out).mono ?_); rintro e w' ⟨rfl, ⟨nd, rfl⟩⟩))
              go_meet
              case rel => exact ⟨_, (t160), (by first | rfl | (simp; done) | (simp [*]; done)), H', ⟨by have := HJ5.out; first | omega | exact Nat.le_refl _⟩, ⟨by repeat (first | (with_reducible first | exact HB.out | apply below_alloc | apply pw_below_drewN | apply below_drew1) | exact HB.out)⟩⟩
            · replace c14 := Bool.eq_false_iff.mpr c14
              subst c14
              have H1 : (crossroadlaw01_AsciiJoins.j1 kj5 a0 a1 a2 false) = some r := by rw [if_neg (show ¬ (false = true) by decide)] at H; exact H
              clear H
              have H := H1
              clear H1
              have H' := Aside0.mk H
              clear H
              go_wp2_with (first | ((with_reducible refine gate_callee (f := 13) rfl ?_); refine goesL_ (some 20) rfl rfl Try.func13 (by kernel_rfl) rfl #[.string a0] rfl (by (try simp only [List.map_toArray, List.map_cons, List.map_nil]); first | done | rfl | (simp only [List.length_drop, List.length_take]; rfl)) ?_; (with_reducible refine (ascii_Token.calls kj5 a0 false _ A13.out).mono ?_); rintro e w' ⟨rfl, ⟨nd, rfl⟩⟩; refine ⟨_, rfl, ?_⟩))
              go_meet
              case rel => exact ⟨_, (false), (by first | rfl | (simp; done) | (simp [*]; done)), H', ⟨by have := HJ5.out; first | omega | exact Nat.le_refl _⟩, ⟨by repeat (first | (with_reducible first | exact HB.out | apply below_alloc | apply pw_below_drewN | apply below_drew1) | exact HB.out)⟩⟩
          case rest =>
            clear HC12
            try clear c1
            try clear p2
            try clear c5
            try clear c8
            try clear c9
            try clear c11
            try clear c12
            try clear c13
            try clear c14
            try clear p2
            obtain ⟨kq, x7_11, rfl, HA, HJ11, HB⟩ := hcut
            cases kq with
            | zero => exact absurd HA.out (by simp [crossroadlaw01_AsciiJoins.j1])
            | succ kj11 =>
              have H := HA.out
              clear HA
              simp only [crossroadlaw01_AsciiJoins.j1] at H
              obtain ⟨y161, hy161⟩ : ∃ y_ : List Int, y_ = (([a2] : List Int)) := ⟨_, rfl⟩
              replace H : (if x7_11 = true then (if a0.size + a1.size ≤ 9223372036854775807 then ((ascii_Token.f kj11 (a0 ++ a1)).bind fun t164 => (if t164 = true then (if a0.size + (strOfNums y161).size ≤ 9223372036854775807 then (if (a0 ++ (strOfNums y161)).size + a1.size ≤ 9223372036854775807 then ((ascii_Token.f kj11 ((a0 ++ (strOfNums y161)) ++ a1)).bind fun t165 => ((ascii_Token.f kj11 a0).bind fun t166 => (if t166 = true then ((ascii_Token.f kj11 (strOfNums y161)).bind fun t167 => (if t167 = true then ((ascii_Token.f kj11 a1).bind fun t168 => (if t168 = true then (if (t165 == true) = true then ((ascii_Lower.f a0).bind fun t169 => ((ascii_Token.f kj11 t169).bind fun t170 => (some (t170 == t166)))) else (some false)) else (if (t165 == (a1.toList.isEmpty)) = true then ((ascii_Lower.f a0).bind fun t171 => ((ascii_Token.f kj11 t171).bind fun t172 => (some (t172 == t166)))) else (some false)))) else (if (t165 == false) = true then ((ascii_Lower.f a0).bind fun t173 => ((ascii_Token.f kj11 t173).bind fun t174 => (some (t174 == t166)))) else (some false)))) else (if a0.toList = ([] : List UInt8) then ((ascii_Token.f kj11 (strOfNums y161)).bind fun t175 => (if t175 = true then ((ascii_Token.f kj11 a1).bind fun t176 => (if t176 = true then (if (t165 == true) = true then ((ascii_Lower.f a0).bind fun t177 => ((ascii_Token.f kj11 t177).bind fun t178 => (some (t178 == t166)))) else (some false)) else (if (t165 == (a1.toList.isEmpty)) = true then ((ascii_Lower.f a0).bind fun t179 => ((ascii_Token.f kj11 t179).bind fun t180 => (some (t180 == t166)))) else (some false)))) else (if (t165 == false) = true then ((ascii_Lower.f a0).bind fun t181 => ((ascii_Token.f kj11 t181).bind fun t182 => (some (t182 == t166)))) else (some false)))) else (if (t165 == false) = true then ((ascii_Lower.f a0).bind fun t183 => ((ascii_Token.f kj11 t183).bind fun t184 => (some (t184 == t166)))) else (some false)))))) else (none)) else (none)) else (some false))) else (none)) else (if a0.size + (strOfNums y161).size ≤ 9223372036854775807 then (if (a0 ++ (strOfNums y161)).size + a1.size ≤ 9223372036854775807 then ((ascii_Token.f kj11 ((a0 ++ (strOfNums y161)) ++ a1)).bind fun t185 => ((ascii_Token.f kj11 a0).bind fun t186 => (if t186 = true then ((ascii_Token.f kj11 (strOfNums y161)).bind fun t187 => (if t187 = true then ((ascii_Token.f kj11 a1).bind fun t188 => (if t188 = true then (if (t185 == true) = true then ((ascii_Lower.f a0).bind fun t189 => ((ascii_Token.f kj11 t189).bind fun t190 => (some (t190 == t186)))) else (some false)) else (if (t185 == (a1.toList.isEmpty)) = true then ((ascii_Lower.f a0).bind fun t191 => ((ascii_Token.f kj11 t191).bind fun t192 => (some (t192 == t186)))) else (some false)))) else (if (t185 == false) = true then ((ascii_Lower.f a0).bind fun t193 => ((ascii_Token.f kj11 t193).bind fun t194 => (some (t194 == t186)))) else (some false)))) else (if a0.toList = ([] : List UInt8) then ((ascii_Token.f kj11 (strOfNums y161)).bind fun t195 => (if t195 = true then ((ascii_Token.f kj11 a1).bind fun t196 => (if t196 = true then (if (t185 == true) = true then ((ascii_Lower.f a0).bind fun t197 => ((ascii_Token.f kj11 t197).bind fun t198 => (some (t198 == t186)))) else (some false)) else (if (t185 == (a1.toList.isEmpty)) = true then ((ascii_Lower.f a0).bind fun t199 => ((ascii_Token.f kj11 t199).bind fun t200 => (some (t200 == t186)))) else (some false)))) else (if (t185 == false) = true then ((ascii_Lower.f a0).bind fun t201 => ((ascii_Token.f kj11 t201).bind fun t202 => (some (t202 == t186)))) else (some false)))) else (if (t185 == false) = true then ((ascii_Lower.f a0).bind fun t203 => ((ascii_Token.f kj11 t203).bind fun t204 => (some (t204 == t186)))) else (some false)))))) else (none)) else (none))) = some r := by first | (rw [hy161]; with_reducible exact H) | (have H2_ := (Option.bind_some _ _).symm.trans H; rw [hy161]; with_reducible exact H2_) | (have H2_ := (Option.bind_some _ _).symm.trans H; with_reducible exact H2_) | with_reducible exact H | (rw [hy161]; exact H) | exact H
              have Ny161 := Aside0.mk hy161
              clear hy161
              by_cases c16 : x7_11 = true
              · subst c16
                have H1 : (if a0.size + a1.size ≤ 9223372036854775807 then ((ascii_Token.f kj11 (a0 ++ a1)).bind fun t164 => (if t164 = true then (if a0.size + (strOfNums y161).size ≤ 9223372036854775807 then (if (a0 ++ (strOfNums y161)).size + a1.size ≤ 9223372036854775807 then ((ascii_Token.f kj11 ((a0 ++ (strOfNums y161)) ++ a1)).bind fun t165 => ((ascii_Token.f kj11 a0).bind fun t166 => (if t166 = true then ((ascii_Token.f kj11 (strOfNums y161)).bind fun t167 => (if t167 = true then ((ascii_Token.f kj11 a1).bind fun t168 => (if t168 = true then (if (t165 == true) = true then ((ascii_Lower.f a0).bind fun t169 => ((ascii_Token.f kj11 t169).bind fun t170 => (some (t170 == t166)))) else (some false)) else (if (t165 == (a1.toList.isEmpty)) = true then ((ascii_Lower.f a0).bind fun t171 => ((ascii_Token.f kj11 t171).bind fun t172 => (some (t172 == t166)))) else (some false)))) else (if (t165 == false) = true then ((ascii_Lower.f a0).bind fun t173 => ((ascii_Token.f kj11 t173).bind fun t174 => (some (t174 == t166)))) else (some false)))) else (if a0.toList = ([] : List UInt8) then ((ascii_Token.f kj11 (strOfNums y161)).bind fun t175 => (if t175 = true then ((ascii_Token.f kj11 a1).bind fun t176 => (if t176 = true then (if (t165 == true) = true then ((ascii_Lower.f a0).bind fun t177 => ((ascii_Token.f kj11 t177).bind fun t178 => (some (t178 == t166)))) else (some false)) else (if (t165 == (a1.toList.isEmpty)) = true then ((ascii_Lower.f a0).bind fun t179 => ((ascii_Token.f kj11 t179).bind fun t180 => (some (t180 == t166)))) else (some false)))) else (if (t165 == false) = true then ((ascii_Lower.f a0).bind fun t181 => ((ascii_Token.f kj11 t181).bind fun t182 => (some (t182 == t166)))) else (some false)))) else (if (t165 == false) = true then ((ascii_Lower.f a0).bind fun t183 => ((ascii_Token.f kj11 t183).bind fun t184 => (some (t184 == t166)))) else (some false)))))) else (none)) else (none)) else (some false))) else (none)) = some r := by rw [if_pos rfl] at H; exact H
                clear H
                have H := H1
                clear H1
                by_cases c17 : a0.size + a1.size ≤ 9223372036854775807
                · rw [if_pos c17] at H
                  have c17b0 := eq_true c17
                  have c17b1 : decide (a0.size + a1.size ≤ 9223372036854775807) = true := decide_eq_true c17
                  try have c17b2 : (9223372036854775807 < a0.size + a1.size) = False := eq_false (Nat.not_lt.2 c17)
                  replace H := Option.bind_eq_some_iff.mp H
                  obtain ⟨t164, A180, H⟩ := H
                  replace H : (if t164 = true then (if a0.size + (strOfNums y161).size ≤ 9223372036854775807 then (if (a0 ++ (strOfNums y161)).size + a1.size ≤ 9223372036854775807 then ((ascii_Token.f kj11 ((a0 ++ (strOfNums y161)) ++ a1)).bind fun t165 => ((ascii_Token.f kj11 a0).bind fun t166 => (if t166 = true then ((ascii_Token.f kj11 (strOfNums y161)).bind fun t167 => (if t167 = true then ((ascii_Token.f kj11 a1).bind fun t168 => (if t168 = true then (if (t165 == true) = true then ((ascii_Lower.f a0).bind fun t169 => ((ascii_Token.f kj11 t169).bind fun t170 => (some (t170 == t166)))) else (some false)) else (if (t165 == (a1.toList.isEmpty)) = true then ((ascii_Lower.f a0).bind fun t171 => ((ascii_Token.f kj11 t171).bind fun t172 => (some (t172 == t166)))) else (some false)))) else (if (t165 == false) = true then ((ascii_Lower.f a0).bind fun t173 => ((ascii_Token.f kj11 t173).bind fun t174 => (some (t174 == t166)))) else (some false)))) else (if a0.toList = ([] : List UInt8) then ((ascii_Token.f kj11 (strOfNums y161)).bind fun t175 => (if t175 = true then ((ascii_Token.f kj11 a1).bind fun t176 => (if t176 = true then (if (t165 == true) = true then ((ascii_Lower.f a0).bind fun t177 => ((ascii_Token.f kj11 t177).bind fun t178 => (some (t178 == t166)))) else (some false)) else (if (t165 == (a1.toList.isEmpty)) = true then ((ascii_Lower.f a0).bind fun t179 => ((ascii_Token.f kj11 t179).bind fun t180 => (some (t180 == t166)))) else (some false)))) else (if (t165 == false) = true then ((ascii_Lower.f a0).bind fun t181 => ((ascii_Token.f kj11 t181).bind fun t182 => (some (t182 == t166)))) else (some false)))) else (if (t165 == false) = true then ((ascii_Lower.f a0).bind fun t183 => ((ascii_Token.f kj11 t183).bind fun t184 => (some (t184 == t166)))) else (some false)))))) else (none)) else (none)) else (some false)) = some r := H
                  have A18 := Aside0.mk A180
                  clear A180
                  by_cases c19 : t164 = true
                  · subst c19
                    have H1 : (if a0.size + (strOfNums y161).size ≤ 9223372036854775807 then (if (a0 ++ (strOfNums y161)).size + a1.size ≤ 9223372036854775807 then ((ascii_Token.f kj11 ((a0 ++ (strOfNums y161)) ++ a1)).bind fun t165 => ((ascii_Token.f kj11 a0).bind fun t166 => (if t166 = true then ((ascii_Token.f kj11 (strOfNums y161)).bind fun t167 => (if t167 = true then ((ascii_Token.f kj11 a1).bind fun t168 => (if t168 = true then (if (t165 == true) = true then ((ascii_Lower.f a0).bind fun t169 => ((ascii_Token.f kj11 t169).bind fun t170 => (some (t170 == t166)))) else (some false)) else (if (t165 == (a1.toList.isEmpty)) = true then ((ascii_Lower.f a0).bind fun t171 => ((ascii_Token.f kj11 t171).bind fun t172 => (some (t172 == t166)))) else (some false)))) else (if (t165 == false) = true then ((ascii_Lower.f a0).bind fun t173 => ((ascii_Token.f kj11 t173).bind fun t174 => (some (t174 == t166)))) else (some false)))) else (if a0.toList = ([] : List UInt8) then ((ascii_Token.f kj11 (strOfNums y161)).bind fun t175 => (if t175 = true then ((ascii_Token.f kj11 a1).bind fun t176 => (if t176 = true then (if (t165 == true) = true then ((ascii_Lower.f a0).bind fun t177 => ((ascii_Token.f kj11 t177).bind fun t178 => (some (t178 == t166)))) else (some false)) else (if (t165 == (a1.toList.isEmpty)) = true then ((ascii_Lower.f a0).bind fun t179 => ((ascii_Token.f kj11 t179).bind fun t180 => (some (t180 == t166)))) else (some false)))) else (if (t165 == false) = true then ((ascii_Lower.f a0).bind fun t181 => ((ascii_Token.f kj11 t181).bind fun t182 => (some (t182 == t166)))) else (some false)))) else (if (t165 == false) = true then ((ascii_Lower.f a0).bind fun t183 => ((ascii_Token.f kj11 t183).bind fun t184 => (some (t184 == t166)))) else (some false)))))) else (none)) else (none)) = some r := by rw [if_pos rfl] at H; exact H
                    clear H
                    have H := H1
                    clear H1
                    by_cases c20 : a0.size + (strOfNums y161).size ≤ 9223372036854775807
                    · rw [if_pos c20] at H
                      have c20b0 := eq_true c20
                      have c20b1 : decide (a0.size + (strOfNums y161).size ≤ 9223372036854775807) = true := decide_eq_true c20
                      try have c20b2 : (9223372036854775807 < a0.size + (strOfNums y161).size) = False := eq_false (Nat.not_lt.2 c20)
                      by_cases c21 : (a0 ++ (strOfNums y161)).size + a1.size ≤ 9223372036854775807
                      · rw [if_pos c21] at H
                        have c21b0 := eq_true c21
                        have c21b1 : decide ((a0 ++ (strOfNums y161)).size + a1.size ≤ 9223372036854775807) = true := decide_eq_true c21
                        try have c21b2 : (9223372036854775807 < (a0 ++ (strOfNums y161)).size + a1.size) = False := eq_false (Nat.not_lt.2 c21)
                        replace H := Option.bind_eq_some_iff.mp H
                        obtain ⟨t165, A220, H⟩ := H
                        replace H : ((ascii_Token.f kj11 a0).bind fun t166 => (if t166 = true then ((ascii_Token.f kj11 (strOfNums y161)).bind fun t167 => (if t167 = true then ((ascii_Token.f kj11 a1).bind fun t168 => (if t168 = true then (if (t165 == true) = true then ((ascii_Lower.f a0).bind fun t169 => ((ascii_Token.f kj11 t169).bind fun t170 => (some (t170 == t166)))) else (some false)) else (if (t165 == (a1.toList.isEmpty)) = true then ((ascii_Lower.f a0).bind fun t171 => ((ascii_Token.f kj11 t171).bind fun t172 => (some (t172 == t166)))) else (some false)))) else (if (t165 == false) = true then ((ascii_Lower.f a0).bind fun t173 => ((ascii_Token.f kj11 t173).bind fun t174 => (some (t174 == t166)))) else (some false)))) else (if a0.toList = ([] : List UInt8) then ((ascii_Token.f kj11 (strOfNums y161)).bind fun t175 => (if t175 = true then ((ascii_Token.f kj11 a1).bind fun t176 => (if t176 = true then (if (t165 == true) = true then ((ascii_Lower.f a0).bind fun t177 => ((ascii_Token.f kj11 t177).bind fun t178 => (some (t178 == t166)))) else (some false)) else (if (t165 == (a1.toList.isEmpty)) = true then ((ascii_Lower.f a0).bind fun t179 => ((ascii_Token.f kj11 t179).bind fun t180 => (some (t180 == t166)))) else (some false)))) else (if (t165 == false) = true then ((ascii_Lower.f a0).bind fun t181 => ((ascii_Token.f kj11 t181).bind fun t182 => (some (t182 == t166)))) else (some false)))) else (if (t165 == false) = true then ((ascii_Lower.f a0).bind fun t183 => ((ascii_Token.f kj11 t183).bind fun t184 => (some (t184 == t166)))) else (some false))))) = some r := H
                        have A22 := Aside0.mk A220
                        clear A220
                        replace H := Option.bind_eq_some_iff.mp H
                        obtain ⟨t166, A230, H⟩ := H
                        replace H : (if t166 = true then ((ascii_Token.f kj11 (strOfNums y161)).bind fun t167 => (if t167 = true then ((ascii_Token.f kj11 a1).bind fun t168 => (if t168 = true then (if (t165 == true) = true then ((ascii_Lower.f a0).bind fun t169 => ((ascii_Token.f kj11 t169).bind fun t170 => (some (t170 == t166)))) else (some false)) else (if (t165 == (a1.toList.isEmpty)) = true then ((ascii_Lower.f a0).bind fun t171 => ((ascii_Token.f kj11 t171).bind fun t172 => (some (t172 == t166)))) else (some false)))) else (if (t165 == false) = true then ((ascii_Lower.f a0).bind fun t173 => ((ascii_Token.f kj11 t173).bind fun t174 => (some (t174 == t166)))) else (some false)))) else (if a0.toList = ([] : List UInt8) then ((ascii_Token.f kj11 (strOfNums y161)).bind fun t175 => (if t175 = true then ((ascii_Token.f kj11 a1).bind fun t176 => (if t176 = true then (if (t165 == true) = true then ((ascii_Lower.f a0).bind fun t177 => ((ascii_Token.f kj11 t177).bind fun t178 => (some (t178 == t166)))) else (some false)) else (if (t165 == (a1.toList.isEmpty)) = true then ((ascii_Lower.f a0).bind fun t179 => ((ascii_Token.f kj11 t179).bind fun t180 => (some (t180 == t166)))) else (some false)))) else (if (t165 == false) = true then ((ascii_Lower.f a0).bind fun t181 => ((ascii_Token.f kj11 t181).bind fun t182 => (some (t182 == t166)))) else (some false)))) else (if (t165 == false) = true then ((ascii_Lower.f a0).bind fun t183 => ((ascii_Token.f kj11 t183).bind fun t184 => (some (t184 == t166)))) else (some false)))) = some r := H
                        have A23 := Aside0.mk A230
                        clear A230
                        by_cases c24 : t166 = true
                        · subst c24
                          have H1 : ((ascii_Token.f kj11 (strOfNums y161)).bind fun t167 => (if t167 = true then ((ascii_Token.f kj11 a1).bind fun t168 => (if t168 = true then (if (t165 == true) = true then ((ascii_Lower.f a0).bind fun t169 => ((ascii_Token.f kj11 t169).bind fun t170 => (some (t170 == true)))) else (some false)) else (if (t165 == (a1.toList.isEmpty)) = true then ((ascii_Lower.f a0).bind fun t171 => ((ascii_Token.f kj11 t171).bind fun t172 => (some (t172 == true)))) else (some false)))) else (if (t165 == false) = true then ((ascii_Lower.f a0).bind fun t173 => ((ascii_Token.f kj11 t173).bind fun t174 => (some (t174 == true)))) else (some false)))) = some r := by rw [if_pos rfl] at H; exact H
                          clear H
                          have H := H1
                          clear H1
                          replace H := Option.bind_eq_some_iff.mp H
                          obtain ⟨t167, A250, H⟩ := H
                          replace H : (if t167 = true then ((ascii_Token.f kj11 a1).bind fun t168 => (if t168 = true then (if (t165 == true) = true then ((ascii_Lower.f a0).bind fun t169 => ((ascii_Token.f kj11 t169).bind fun t170 => (some (t170 == true)))) else (some false)) else (if (t165 == (a1.toList.isEmpty)) = true then ((ascii_Lower.f a0).bind fun t171 => ((ascii_Token.f kj11 t171).bind fun t172 => (some (t172 == true)))) else (some false)))) else (if (t165 == false) = true then ((ascii_Lower.f a0).bind fun t173 => ((ascii_Token.f kj11 t173).bind fun t174 => (some (t174 == true)))) else (some false))) = some r := H
                          have A25 := Aside0.mk A250
                          clear A250
                          by_cases c26 : t167 = true
                          · subst c26
                            have H1 : ((ascii_Token.f kj11 a1).bind fun t168 => (if t168 = true then (if (t165 == true) = true then ((ascii_Lower.f a0).bind fun t169 => ((ascii_Token.f kj11 t169).bind fun t170 => (some (t170 == true)))) else (some false)) else (if (t165 == (a1.toList.isEmpty)) = true then ((ascii_Lower.f a0).bind fun t171 => ((ascii_Token.f kj11 t171).bind fun t172 => (some (t172 == true)))) else (some false)))) = some r := by rw [if_pos rfl] at H; exact H
                            clear H
                            have H := H1
                            clear H1
                            replace H := Option.bind_eq_some_iff.mp H
                            obtain ⟨t168, A270, H⟩ := H
                            replace H : (if t168 = true then (if (t165 == true) = true then ((ascii_Lower.f a0).bind fun t169 => ((ascii_Token.f kj11 t169).bind fun t170 => (some (t170 == true)))) else (some false)) else (if (t165 == (a1.toList.isEmpty)) = true then ((ascii_Lower.f a0).bind fun t171 => ((ascii_Token.f kj11 t171).bind fun t172 => (some (t172 == true)))) else (some false))) = some r := H
                            have A27 := Aside0.mk A270
                            clear A270
                            by_cases c28 : t168 = true
                            · subst c28
                              have H1 : (if (t165 == true) = true then ((ascii_Lower.f a0).bind fun t169 => ((ascii_Token.f kj11 t169).bind fun t170 => (some (t170 == true)))) else (some false)) = some r := by rw [if_pos rfl] at H; exact H
                              clear H
                              have H := H1
                              clear H1
                              by_cases c29 : (t165 == true) = true
                              · rw [if_pos c29] at H
                                have c29b0 : (t165 == true) = true := c29
                                (try (have c29b1 : decide (t165 = true) = true := by simpa using c29))
                                (try (have c29b2 : (t165 == true) = true := by simpa using c29))
                                clear c29
                                replace H := Option.bind_eq_some_iff.mp H
                                obtain ⟨t169, A300, H⟩ := H
                                replace H : ((ascii_Token.f kj11 t169).bind fun t170 => (some (t170 == true))) = some r := H
                                have A30 := Aside0.mk A300
                                clear A300
                                replace H := Option.bind_eq_some_iff.mp H
                                obtain ⟨t170, A310, H⟩ := H
                                replace H : (some (t170 == true)) = some r := H
                                have A31 := Aside0.mk A310
                                clear A310
                                obtain rfl := Option.some.inj H
                                go_wp2_with (first | ((with_reducible refine gate_dst (N := 26) rfl ?_); refine Kd.R_lit (Kd.int .u8) _ 5 ?hg (N := 26) ?hd (xs := ([a2] : List Int)) (inner := [.int .u8 a2]) (ok := fun _ => True) (okp := fun _ => True) ?hr ?hp (fun _ hk => hk) trivial (Below.refl _ _) (Nat.le_refl _) (by simp) ?_; (case hd => rfl); (case hg => rfl); (case hr => first | (go_simp; done) | (go_simp; rfl)); (case hp => exact (Reps.one (show Kd.M (Kd.int .u8) _ _ _ a2 [.int .u8 a2] from rfl) (Reps.none _ _))); intro v162 w32 ho33 hb hg_ hnew_; clear hg_ hnew_; (first | rw [← Ny161.out] at ho33 | (simp only [Int.reduceToNat] at ho33; rw [← Ny161.out] at ho33)); have n0_ := Aside0.mk (Kd.R_lower ho33 (below_size (by repeat (first | (with_reducible first | exact HB.out | apply below_alloc | apply pw_below_drewN | apply below_drew1) | exact HB.out)))); have n1_ := Aside0.mk (below_step (by repeat (first | (with_reducible first | exact HB.out | apply below_alloc | apply pw_below_drewN | apply below_drew1) | exact HB.out)) hb); clear HB; have HO163 := n0_; have HB := n1_; clear n0_ n1_; clear hb ho33; have hcv34 := own_string (P := Try.prog) Try.underlying24 Try.underlying5 Try.underlying9 (Kd.own_of_R HO163.out)) | (go_at_call 13; (with_reducible refine (ascii_Token.calls kj11 (a0 ++ a1) true _ A18.out).mono ?_); rintro e w' ⟨rfl, ⟨nd, rfl⟩⟩) | (go_at_call 13; (with_reducible refine (ascii_Token.calls kj11 ((a0 ++ (strOfNums y161)) ++ a1) t165 _ A22.out).mono ?_); rintro e w' ⟨rfl, ⟨nd, rfl⟩⟩) | (go_at_call 13; (with_reducible refine (ascii_Token.calls kj11 a0 true _ A23.out).mono ?_); rintro e w' ⟨rfl, ⟨nd, rfl⟩⟩) | (go_at_call 13; (with_reducible refine (ascii_Token.calls kj11 (strOfNums y161) true _ A25.out).mono ?_); rintro e w' ⟨rfl, ⟨nd, rfl⟩⟩) | (go_at_call 13; (with_reducible refine (ascii_Token.calls kj11 a1 true _ A27.out).mono ?_); rintro e w' ⟨rfl, ⟨nd, rfl⟩⟩) | (go_at_call 17; (with_reducible refine (ascii_Lower.calls a0 t169 _ A30.out).mono ?_); rintro e w35 ⟨rfl, hb⟩; have n0_ := Aside0.mk (Kd.R_below (by (with_reducible repeat (first | apply Kd.R_alloc | apply Kd.R_drewN | apply Kd.R_drew)); exact HO163.out) hb); have n1_ := Aside0.mk (below_step (by repeat (first | (with_reducible first | exact HB.out | apply below_alloc | apply pw_below_drewN | apply below_drew1) | exact HB.out)) hb); clear HO163; clear HB; have HO163 := n0_; have HB := n1_; clear n0_ n1_; (try clear hb); (try clear hb2); (try clear hk); (try clear hi)) | (go_at_call 13; (with_reducible refine (ascii_Token.calls kj11 t169 t170 _ A31.out).mono ?_); rintro e w' ⟨rfl, ⟨nd, rfl⟩⟩))
                                go_ret
                                exact ⟨by first | rfl | (simp [errW_none, errW_some] <;> rfl) | (simp [*, errW_none, errW_some] <;> rfl), by repeat (first | (with_reducible first | exact HB.out | apply below_alloc | apply pw_below_drewN | apply below_drew1) | exact HB.out)⟩
                              · rw [if_neg c29] at H
                                have c29b0 : (t165 == true) = false := by simpa using c29
                                (try (have c29b1 : decide (t165 = true) = false := by simpa using c29))
                                (try (have c29b2 : (t165 == true) = false := by simpa using c29))
                                (try (have c29b3 : ¬ (t165 = true) := by simpa using c29))
                                clear c29
                                obtain rfl := Option.some.inj H
                                go_wp2_with (first | ((with_reducible refine gate_dst (N := 26) rfl ?_); refine Kd.R_lit (Kd.int .u8) _ 5 ?hg (N := 26) ?hd (xs := ([a2] : List Int)) (inner := [.int .u8 a2]) (ok := fun _ => True) (okp := fun _ => True) ?hr ?hp (fun _ hk => hk) trivial (Below.refl _ _) (Nat.le_refl _) (by simp) ?_; (case hd => rfl); (case hg => rfl); (case hr => first | (go_simp; done) | (go_simp; rfl)); (case hp => exact (Reps.one (show Kd.M (Kd.int .u8) _ _ _ a2 [.int .u8 a2] from rfl) (Reps.none _ _))); intro v162 w36 ho37 hb hg_ hnew_; clear hg_ hnew_; (first | rw [← Ny161.out] at ho37 | (simp only [Int.reduceToNat] at ho37; rw [← Ny161.out] at ho37)); have n0_ := Aside0.mk (Kd.R_lower ho37 (below_size (by repeat (first | (with_reducible first | exact HB.out | apply below_alloc | apply pw_below_drewN | apply below_drew1) | exact HB.out)))); have n1_ := Aside0.mk (below_step (by repeat (first | (with_reducible first | exact HB.out | apply below_alloc | apply pw_below_drewN | apply below_drew1) | exact HB.out)) hb); clear HB; have HO163 := n0_; have HB := n1_; clear n0_ n1_; clear hb ho37; have hcv38 := own_string (P := Try.prog) Try.underlying24 Try.underlying5 Try.underlying9 (Kd.own_of_R HO163.out)) | (go_at_call 13; (with_reducible refine (ascii_Token.calls kj11 (a0 ++ a1) true _ A18.out).mono ?_); rintro e w' ⟨rfl, ⟨nd, rfl⟩⟩) | (go_at_call 13; (with_reducible refine (ascii_Token.calls kj11 ((a0 ++ (strOfNums y161)) ++ a1) t165 _ A22.out).mono ?_); rintro e w' ⟨rfl, ⟨nd, rfl⟩⟩) | (go_at_call 13; (with_reducible refine (ascii_Token.calls kj11 a0 true _ A23.out).mono ?_); rintro e w' ⟨rfl, ⟨nd, rfl⟩⟩) | (go_at_call 13; (with_reducible refine (ascii_Token.calls kj11 (strOfNums y161) true _ A25.out).mono ?_); rintro e w' ⟨rfl, ⟨nd, rfl⟩⟩) | (go_at_call 13; (with_reducible refine (ascii_Token.calls kj11 a1 true _ A27.out).mono ?_); rintro e w' ⟨rfl, ⟨nd, rfl⟩⟩))
                                go_ret
                                exact ⟨by first | rfl | (simp [errW_none, errW_some] <;> rfl) | (simp [*, errW_none, errW_some] <;> rfl), by repeat (first | (with_reducible first | exact HB.out | apply below_alloc | apply pw_below_drewN | apply below_drew1) | exact HB.out)⟩
                            · replace c28 := Bool.eq_false_iff.mpr c28
                              subst c28
                              have H1 : (if (t165 == (a1.toList.isEmpty)) = true then ((ascii_Lower.f a0).bind fun t171 => ((ascii_Token.f kj11 t171).bind fun t172 => (some (t172 == true)))) else (some false)) = some r := by rw [if_neg (show ¬ (false = true) by decide)] at H; exact H
                              clear H
                              have H := H1
                              clear H1
                              by_cases c39 : (t165 == (a1.toList.isEmpty)) = true
                              · rw [if_pos c39] at H
                                have c39b0 : (t165 == (a1.toList.isEmpty)) = true := c39
                                (try (have c39b1 : decide (t165 = (a1.toList.isEmpty)) = true := by simpa using c39))
                                (try (have c39b2 : (t165 == (a1.toList.isEmpty)) = true := by simpa using c39))
                                clear c39
                                replace H := Option.bind_eq_some_iff.mp H
                                obtain ⟨t171, A400, H⟩ := H
                                replace H : ((ascii_Token.f kj11 t171).bind fun t172 => (some (t172 == true))) = some r := H
                                have A40 := Aside0.mk A400
                                clear A400
                                replace H := Option.bind_eq_some_iff.mp H
                                obtain ⟨t172, A410, H⟩ := H
                                replace H : (some (t172 == true)) = some r := H
                                have A41 := Aside0.mk A410
                                clear A410
                                obtain rfl := Option.some.inj H
                                go_wp2_with (first | ((with_reducible refine gate_dst (N := 26) rfl ?_); refine Kd.R_lit (Kd.int .u8) _ 5 ?hg (N := 26) ?hd (xs := ([a2] : List Int)) (inner := [.int .u8 a2]) (ok := fun _ => True) (okp := fun _ => True) ?hr ?hp (fun _ hk => hk) trivial (Below.refl _ _) (Nat.le_refl _) (by simp) ?_; (case hd => rfl); (case hg => rfl); (case hr => first | (go_simp; done) | (go_simp; rfl)); (case hp => exact (Reps.one (show Kd.M (Kd.int .u8) _ _ _ a2 [.int .u8 a2] from rfl) (Reps.none _ _))); intro v162 w42 ho43 hb hg_ hnew_; clear hg_ hnew_; (first | rw [← Ny161.out] at ho43 | (simp only [Int.reduceToNat] at ho43; rw [← Ny161.out] at ho43)); have n0_ := Aside0.mk (Kd.R_lower ho43 (below_size (by repeat (first | (with_reducible first | exact HB.out | apply below_alloc | apply pw_below_drewN | apply below_drew1) | exact HB.out)))); have n1_ := Aside0.mk (below_step (by repeat (first | (with_reducible first | exact HB.out | apply below_alloc | apply pw_below_drewN | apply below_drew1) | exact HB.out)) hb); clear HB; have HO163 := n0_; have HB := n1_; clear n0_ n1_; clear hb ho43; have hcv44 := own_string (P := Try.prog) Try.underlying24 Try.underlying5 Try.underlying9 (Kd.own_of_R HO163.out)) | (go_at_call 13; (with_reducible refine (ascii_Token.calls kj11 (a0 ++ a1) true _ A18.out).mono ?_); rintro e w' ⟨rfl, ⟨nd, rfl⟩⟩) | (go_at_call 13; (with_reducible refine (ascii_Token.calls kj11 ((a0 ++ (strOfNums y161)) ++ a1) t165 _ A22.out).mono ?_); rintro e w' ⟨rfl, ⟨nd, rfl⟩⟩) | (go_at_call 13; (with_reducible refine (ascii_Token.calls kj11 a0 true _ A23.out).mono ?_); rintro e w' ⟨rfl, ⟨nd, rfl⟩⟩) | (go_at_call 13; (with_reducible refine (ascii_Token.calls kj11 (strOfNums y161) true _ A25.out).mono ?_); rintro e w' ⟨rfl, ⟨nd, rfl⟩⟩) | (go_at_call 13; (with_reducible refine (ascii_Token.calls kj11 a1 false _ A27.out).mono ?_); rintro e w' ⟨rfl, ⟨nd, rfl⟩⟩) | (go_at_call 17; (with_reducible refine (ascii_Lower.calls a0 t171 _ A40.out).mono ?_); rintro e w45 ⟨rfl, hb⟩; have n0_ := Aside0.mk (Kd.R_below (by (with_reducible repeat (first | apply Kd.R_alloc | apply Kd.R_drewN | apply Kd.R_drew)); exact HO163.out) hb); have n1_ := Aside0.mk (below_step (by repeat (first | (with_reducible first | exact HB.out | apply below_alloc | apply pw_below_drewN | apply below_drew1) | exact HB.out)) hb); clear HO163; clear HB; have HO163 := n0_; have HB := n1_; clear n0_ n1_; (try clear hb); (try clear hb2); (try clear hk); (try clear hi)) | (go_at_call 13; (with_reducible refine (ascii_Token.calls kj11 t171 t172 _ A41.out).mono ?_); rintro e w' ⟨rfl, ⟨nd, rfl⟩⟩))
                                go_ret
                                exact ⟨by first | rfl | (simp [errW_none, errW_some] <;> rfl) | (simp [*, errW_none, errW_some] <;> rfl), by repeat (first | (with_reducible first | exact HB.out | apply below_alloc | apply pw_below_drewN | apply below_drew1) | exact HB.out)⟩
                              · rw [if_neg c39] at H
                                have c39b0 : (t165 == (a1.toList.isEmpty)) = false := by simpa using c39
                                (try (have c39b1 : decide (t165 = (a1.toList.isEmpty)) = false := by simpa using c39))
                                (try (have c39b2 : (t165 == (a1.toList.isEmpty)) = false := by simpa using c39))
                                (try (have c39b3 : ¬ (t165 = (a1.toList.isEmpty)) := by simpa using c39))
                                clear c39
                                obtain rfl := Option.some.inj H
                                go_wp2_with (first | ((with_reducible refine gate_dst (N := 26) rfl ?_); refine Kd.R_lit (Kd.int .u8) _ 5 ?hg (N := 26) ?hd (xs := ([a2] : List Int)) (inner := [.int .u8 a2]) (ok := fun _ => True) (okp := fun _ => True) ?hr ?hp (fun _ hk => hk) trivial (Below.refl _ _) (Nat.le_refl _) (by simp) ?_; (case hd => rfl); (case hg => rfl); (case hr => first | (go_simp; done) | (go_simp; rfl)); (case hp => exact (Reps.one (show Kd.M (Kd.int .u8) _ _ _ a2 [.int .u8 a2] from rfl) (Reps.none _ _))); intro v162 w46 ho47 hb hg_ hnew_; clear hg_ hnew_; (first | rw [← Ny161.out] at ho47 | (simp only [Int.reduceToNat] at ho47; rw [← Ny161.out] at ho47)); have n0_ := Aside0.mk (Kd.R_lower ho47 (below_size (by repeat (first | (with_reducible first | exact HB.out | apply below_alloc | apply pw_below_drewN | apply below_drew1) | exact HB.out)))); have n1_ := Aside0.mk (below_step (by repeat (first | (with_reducible first | exact HB.out | apply below_alloc | apply pw_below_drewN | apply below_drew1) | exact HB.out)) hb); clear HB; have HO163 := n0_; have HB := n1_; clear n0_ n1_; clear hb ho47; have hcv48 := own_string (P := Try.prog) Try.underlying24 Try.underlying5 Try.underlying9 (Kd.own_of_R HO163.out)) | (go_at_call 13; (with_reducible refine (ascii_Token.calls kj11 (a0 ++ a1) true _ A18.out).mono ?_); rintro e w' ⟨rfl, ⟨nd, rfl⟩⟩) | (go_at_call 13; (with_reducible refine (ascii_Token.calls kj11 ((a0 ++ (strOfNums y161)) ++ a1) t165 _ A22.out).mono ?_); rintro e w' ⟨rfl, ⟨nd, rfl⟩⟩) | (go_at_call 13; (with_reducible refine (ascii_Token.calls kj11 a0 true _ A23.out).mono ?_); rintro e w' ⟨rfl, ⟨nd, rfl⟩⟩) | (go_at_call 13; (with_reducible refine (ascii_Token.calls kj11 (strOfNums y161) true _ A25.out).mono ?_); rintro e w' ⟨rfl, ⟨nd, rfl⟩⟩) | (go_at_call 13; (with_reducible refine (ascii_Token.calls kj11 a1 false _ A27.out).mono ?_); rintro e w' ⟨rfl, ⟨nd, rfl⟩⟩))
                                go_ret
                                exact ⟨by first | rfl | (simp [errW_none, errW_some] <;> rfl) | (simp [*, errW_none, errW_some] <;> rfl), by repeat (first | (with_reducible first | exact HB.out | apply below_alloc | apply pw_below_drewN | apply below_drew1) | exact HB.out)⟩
                          · replace c26 := Bool.eq_false_iff.mpr c26
                            subst c26
                            have H1 : (if (t165 == false) = true then ((ascii_Lower.f a0).bind fun t173 => ((ascii_Token.f kj11 t173).bind fun t174 => (some (t174 == true)))) else (some false)) = some r := by rw [if_neg (show ¬ (false = true) by decide)] at H; exact H
                            clear H
                            have H := H1
                            clear H1
                            by_cases c49 : (t165 == false) = true
                            · rw [if_pos c49] at H
                              have c49b0 : (t165 == false) = true := c49
                              (try (have c49b1 : decide (t165 = false) = true := by simpa using c49))
                              (try (have c49b2 : (t165 == false) = true := by simpa using c49))
                              clear c49
                              replace H := Option.bind_eq_some_iff.mp H
                              obtain ⟨t173, A500, H⟩ := H
                              replace H : ((ascii_Token.f kj11 t173).bind fun t174 => (some (t174 == true))) = some r := H
                              have A50 := Aside0.mk A500
                              clear A500
                              replace H := Option.bind_eq_some_iff.mp H
                              obtain ⟨t174, A510, H⟩ := H
                              replace H : (some (t174 == true)) = some r := H
                              have A51 := Aside0.mk A510
                              clear A510
                              obtain rfl := Option.some.inj H
                              go_wp2_with (first | ((with_reducible refine gate_dst (N := 26) rfl ?_); refine Kd.R_lit (Kd.int .u8) _ 5 ?hg (N := 26) ?hd (xs := ([a2] : List Int)) (inner := [.int .u8 a2]) (ok := fun _ => True) (okp := fun _ => True) ?hr ?hp (fun _ hk => hk) trivial (Below.refl _ _) (Nat.le_refl _) (by simp) ?_; (case hd => rfl); (case hg => rfl); (case hr => first | (go_simp; done) | (go_simp; rfl)); (case hp => exact (Reps.one (show Kd.M (Kd.int .u8) _ _ _ a2 [.int .u8 a2] from rfl) (Reps.none _ _))); intro v162 w52 ho53 hb hg_ hnew_; clear hg_ hnew_; (first | rw [← Ny161.out] at ho53 | (simp only [Int.reduceToNat] at ho53; rw [← Ny161.out] at ho53)); have n0_ := Aside0.mk (Kd.R_lower ho53 (below_size (by repeat (first | (with_reducible first | exact HB.out | apply below_alloc | apply pw_below_drewN | apply below_drew1) | exact HB.out)))); have n1_ := Aside0.mk (below_step (by repeat (first | (with_reducible first | exact HB.out | apply below_alloc | apply pw_below_drewN | apply below_drew1) | exact HB.out)) hb); clear HB; have HO163 := n0_; have HB := n1_; clear n0_ n1_; clear hb ho53; have hcv54 := own_string (P := Try.prog) Try.underlying24 Try.underlying5 Try.underlying9 (Kd.own_of_R HO163.out)) | (go_at_call 13; (with_reducible refine (ascii_Token.calls kj11 (a0 ++ a1) true _ A18.out).mono ?_); rintro e w' ⟨rfl, ⟨nd, rfl⟩⟩) | (go_at_call 13; (with_reducible refine (ascii_Token.calls kj11 ((a0 ++ (strOfNums y161)) ++ a1) t165 _ A22.out).mono ?_); rintro e w' ⟨rfl, ⟨nd, rfl⟩⟩) | (go_at_call 13; (with_reducible refine (ascii_Token.calls kj11 a0 true _ A23.out).mono ?_); rintro e w' ⟨rfl, ⟨nd, rfl⟩⟩) | (go_at_call 13; (with_reducible refine (ascii_Token.calls kj11 (strOfNums y161) false _ A25.out).mono ?_); rintro e w' ⟨rfl, ⟨nd, rfl⟩⟩) | (go_at_call 17; (with_reducible refine (ascii_Lower.calls a0 t173 _ A50.out).mono ?_); rintro e w55 ⟨rfl, hb⟩; have n0_ := Aside0.mk (Kd.R_below (by (with_reducible repeat (first | apply Kd.R_alloc | apply Kd.R_drewN | apply Kd.R_drew)); exact HO163.out) hb); have n1_ := Aside0.mk (below_step (by repeat (first | (with_reducible first | exact HB.out | apply below_alloc | apply pw_below_drewN | apply below_drew1) | exact HB.out)) hb); clear HO163; clear HB; have HO163 := n0_; have HB := n1_; clear n0_ n1_; (try clear hb); (try clear hb2); (try clear hk); (try clear hi)) | (go_at_call 13; (with_reducible refine (ascii_Token.calls kj11 t173 t174 _ A51.out).mono ?_); rintro e w' ⟨rfl, ⟨nd, rfl⟩⟩))
                              go_ret
                              exact ⟨by first | rfl | (simp [errW_none, errW_some] <;> rfl) | (simp [*, errW_none, errW_some] <;> rfl), by repeat (first | (with_reducible first | exact HB.out | apply below_alloc | apply pw_below_drewN | apply below_drew1) | exact HB.out)⟩
                            · rw [if_neg c49] at H
                              have c49b0 : (t165 == false) = false := by simpa using c49
                              (try (have c49b1 : decide (t165 = false) = false := by simpa using c49))
                              (try (have c49b2 : (t165 == false) = false := by simpa using c49))
                              (try (have c49b3 : ¬ (t165 = false) := by simpa using c49))
                              clear c49
                              obtain rfl := Option.some.inj H
                              go_wp2_with (first | ((with_reducible refine gate_dst (N := 26) rfl ?_); refine Kd.R_lit (Kd.int .u8) _ 5 ?hg (N := 26) ?hd (xs := ([a2] : List Int)) (inner := [.int .u8 a2]) (ok := fun _ => True) (okp := fun _ => True) ?hr ?hp (fun _ hk => hk) trivial (Below.refl _ _) (Nat.le_refl _) (by simp) ?_; (case hd => rfl); (case hg => rfl); (case hr => first | (go_simp; done) | (go_simp; rfl)); (case hp => exact (Reps.one (show Kd.M (Kd.int .u8) _ _ _ a2 [.int .u8 a2] from rfl) (Reps.none _ _))); intro v162 w56 ho57 hb hg_ hnew_; clear hg_ hnew_; (first | rw [← Ny161.out] at ho57 | (simp only [Int.reduceToNat] at ho57; rw [← Ny161.out] at ho57)); have n0_ := Aside0.mk (Kd.R_lower ho57 (below_size (by repeat (first | (with_reducible first | exact HB.out | apply below_alloc | apply pw_below_drewN | apply below_drew1) | exact HB.out)))); have n1_ := Aside0.mk (below_step (by repeat (first | (with_reducible first | exact HB.out | apply below_alloc | apply pw_below_drewN | apply below_drew1) | exact HB.out)) hb); clear HB; have HO163 := n0_; have HB := n1_; clear n0_ n1_; clear hb ho57; have hcv58 := own_string (P := Try.prog) Try.underlying24 Try.underlying5 Try.underlying9 (Kd.own_of_R HO163.out)) | (go_at_call 13; (with_reducible refine (ascii_Token.calls kj11 (a0 ++ a1) true _ A18.out).mono ?_); rintro e w' ⟨rfl, ⟨nd, rfl⟩⟩) | (go_at_call 13; (with_reducible refine (ascii_Token.calls kj11 ((a0 ++ (strOfNums y161)) ++ a1) t165 _ A22.out).mono ?_); rintro e w' ⟨rfl, ⟨nd, rfl⟩⟩) | (go_at_call 13; (with_reducible refine (ascii_Token.calls kj11 a0 true _ A23.out).mono ?_); rintro e w' ⟨rfl, ⟨nd, rfl⟩⟩) | (go_at_call 13; (with_reducible refine (ascii_Token.calls kj11 (strOfNums y161) false _ A25.out).mono ?_); rintro e w' ⟨rfl, ⟨nd, rfl⟩⟩))
                              go_ret
                              exact ⟨by first | rfl | (simp [errW_none, errW_some] <;> rfl) | (simp [*, errW_none, errW_some] <;> rfl), by repeat (first | (with_reducible first | exact HB.out | apply below_alloc | apply pw_below_drewN | apply below_drew1) | exact HB.out)⟩
                        · replace c24 := Bool.eq_false_iff.mpr c24
                          subst c24
                          have H1 : (if a0.toList = ([] : List UInt8) then ((ascii_Token.f kj11 (strOfNums y161)).bind fun t175 => (if t175 = true then ((ascii_Token.f kj11 a1).bind fun t176 => (if t176 = true then (if (t165 == true) = true then ((ascii_Lower.f a0).bind fun t177 => ((ascii_Token.f kj11 t177).bind fun t178 => (some (t178 == false)))) else (some false)) else (if (t165 == (a1.toList.isEmpty)) = true then ((ascii_Lower.f a0).bind fun t179 => ((ascii_Token.f kj11 t179).bind fun t180 => (some (t180 == false)))) else (some false)))) else (if (t165 == false) = true then ((ascii_Lower.f a0).bind fun t181 => ((ascii_Token.f kj11 t181).bind fun t182 => (some (t182 == false)))) else (some false)))) else (if (t165 == false) = true then ((ascii_Lower.f a0).bind fun t183 => ((ascii_Token.f kj11 t183).bind fun t184 => (some (t184 == false)))) else (some false))) = some r := by rw [if_neg (show ¬ (false = true) by decide)] at H; exact H
                          clear H
                          have H := H1
                          clear H1
                          by_cases c59 : a0.toList = ([] : List UInt8)
                          · rw [if_pos c59] at H
                            have c59b0 : (a0.toList == ([] : List UInt8)) = true := beq_iff_eq.mpr c59
                            have c59b1 : (a0.toList != ([] : List UInt8)) = false := bne_eq_false_iff_eq.mpr c59
                            clear c59
                            replace H := Option.bind_eq_some_iff.mp H
                            obtain ⟨t175, A600, H⟩ := H
                            replace H : (if t175 = true then ((ascii_Token.f kj11 a1).bind fun t176 => (if t176 = true then (if (t165 == true) = true then ((ascii_Lower.f a0).bind fun t177 => ((ascii_Token.f kj11 t177).bind fun t178 => (some (t178 == false)))) else (some false)) else (if (t165 == (a1.toList.isEmpty)) = true then ((ascii_Lower.f a0).bind fun t179 => ((ascii_Token.f kj11 t179).bind fun t180 => (some (t180 == false)))) else (some false)))) else (if (t165 == false) = true then ((ascii_Lower.f a0).bind fun t181 => ((ascii_Token.f kj11 t181).bind fun t182 => (some (t182 == false)))) else (some false))) = some r := H
                            have A60 := Aside0.mk A600
                            clear A600
                            by_cases c61 : t175 = true
                            · subst c61
                              have H1 : ((ascii_Token.f kj11 a1).bind fun t176 => (if t176 = true then (if (t165 == true) = true then ((ascii_Lower.f a0).bind fun t177 => ((ascii_Token.f kj11 t177).bind fun t178 => (some (t178 == false)))) else (some false)) else (if (t165 == (a1.toList.isEmpty)) = true then ((ascii_Lower.f a0).bind fun t179 => ((ascii_Token.f kj11 t179).bind fun t180 => (some (t180 == false)))) else (some false)))) = some r := by rw [if_pos rfl] at H; exact H
                              clear H
                              have H := H1
                              clear H1
                              replace H := Option.bind_eq_some_iff.mp H
                              obtain ⟨t176, A620, H⟩ := H
                              replace H : (if t176 = true then (if (t165 == true) = true then ((ascii_Lower.f a0).bind fun t177 => ((ascii_Token.f kj11 t177).bind fun t178 => (some (t178 == false)))) else (some false)) else (if (t165 == (a1.toList.isEmpty)) = true then ((ascii_Lower.f a0).bind fun t179 => ((ascii_Token.f kj11 t179).bind fun t180 => (some (t180 == false)))) else (some false))) = some r := H
                              have A62 := Aside0.mk A620
                              clear A620
                              by_cases c63 : t176 = true
                              · subst c63
                                have H1 : (if (t165 == true) = true then ((ascii_Lower.f a0).bind fun t177 => ((ascii_Token.f kj11 t177).bind fun t178 => (some (t178 == false)))) else (some false)) = some r := by rw [if_pos rfl] at H; exact H
                                clear H
                                have H := H1
                                clear H1
                                by_cases c64 : (t165 == true) = true
                                · rw [if_pos c64] at H
                                  have c64b0 : (t165 == true) = true := c64
                                  (try (have c64b1 : decide (t165 = true) = true := by simpa using c64))
                                  (try (have c64b2 : (t165 == true) = true := by simpa using c64))
                                  clear c64
                                  replace H := Option.bind_eq_some_iff.mp H
                                  obtain ⟨t177, A650, H⟩ := H
                                  replace H : ((ascii_Token.f kj11 t177).bind fun t178 => (some (t178 == false))) = some r := H
                                  have A65 := Aside0.mk A650
                                  clear A650
                                  replace H := Option.bind_eq_some_iff.mp H
                                  obtain ⟨t178, A660, H⟩ := H
                                  replace H : (some (t178 == false)) = some r := H
                                  have A66 := Aside0.mk A660
                                  clear A660
                                  obtain rfl := Option.some.inj H
                                  go_wp2_with (first | ((with_reducible refine gate_dst (N := 26) rfl ?_); refine Kd.R_lit (Kd.int .u8) _ 5 ?hg (N := 26) ?hd (xs := ([a2] : List Int)) (inner := [.int .u8 a2]) (ok := fun _ => True) (okp := fun _ => True) ?hr ?hp (fun _ hk => hk) trivial (Below.refl _ _) (Nat.le_refl _) (by simp) ?_; (case hd => rfl); (case hg => rfl); (case hr => first | (go_simp; done) | (go_simp; rfl)); (case hp => exact (Reps.one (show Kd.M (Kd.int .u8) _ _ _ a2 [.int .u8 a2] from rfl) (Reps.none _ _))); intro v162 w67 ho68 hb hg_ hnew_; clear hg_ hnew_; (first | rw [← Ny161.out] at ho68 | (simp only [Int.reduceToNat] at ho68; rw [← Ny161.out] at ho68)); have n0_ := Aside0.mk (Kd.R_lower ho68 (below_size (by repeat (first | (with_reducible first | exact HB.out | apply below_alloc | apply pw_below_drewN | apply below_drew1) | exact HB.out)))); have n1_ := Aside0.mk (below_step (by repeat (first | (with_reducible first | exact HB.out | apply below_alloc | apply pw_below_drewN | apply below_drew1) | exact HB.out)) hb); clear HB; have HO163 := n0_; have HB := n1_; clear n0_ n1_; clear hb ho68; have hcv69 := own_string (P := Try.prog) Try.underlying24 Try.underlying5 Try.underlying9 (Kd.own_of_R HO163.out)) | (go_at_call 13; (with_reducible refine (ascii_Token.calls kj11 (a0 ++ a1) true _ A18.out).mono ?_); rintro e w' ⟨rfl, ⟨nd, rfl⟩⟩) | (go_at_call 13; (with_reducible refine (ascii_Token.calls kj11 ((a0 ++ (strOfNums y161)) ++ a1) t165 _ A22.out).mono ?_); rintro e w' ⟨rfl, ⟨nd, rfl⟩⟩) | (go_at_call 13; (with_reducible refine (ascii_Token.calls kj11 a0 false _ A23.out).mono ?_); rintro e w' ⟨rfl, ⟨nd, rfl⟩⟩) | (go_at_call 13; (with_reducible refine (ascii_Token.calls kj11 (strOfNums y161) true _ A60.out).mono ?_); rintro e w' ⟨rfl, ⟨nd, rfl⟩⟩) | (go_at_call 13; (with_reducible refine (ascii_Token.calls kj11 a1 true _ A62.out).mono ?_); rintro e w' ⟨rfl, ⟨nd, rfl⟩⟩) | (go_at_call 17; (with_reducible refine (ascii_Lower.calls a0 t177 _ A65.out).mono ?_); rintro e w70 ⟨rfl, hb⟩; have n0_ := Aside0.mk (Kd.R_below (by (with_reducible repeat (first | apply Kd.R_alloc | apply Kd.R_drewN | apply Kd.R_drew)); exact HO163.out) hb); have n1_ := Aside0.mk (below_step (by repeat (first | (with_reducible first | exact HB.out | apply below_alloc | apply pw_below_drewN | apply below_drew1) | exact HB.out)) hb); clear HO163; clear HB; have HO163 := n0_; have HB := n1_; clear n0_ n1_; (try clear hb); (try clear hb2); (try clear hk); (try clear hi)) | (go_at_call 13; (with_reducible refine (ascii_Token.calls kj11 t177 t178 _ A66.out).mono ?_); rintro e w' ⟨rfl, ⟨nd, rfl⟩⟩))
                                  go_ret
                                  exact ⟨by first | rfl | (simp [errW_none, errW_some] <;> rfl) | (simp [*, errW_none, errW_some] <;> rfl), by repeat (first | (with_reducible first | exact HB.out | apply below_alloc | apply pw_below_drewN | apply below_drew1) | exact HB.out)⟩
                                · rw [if_neg c64] at H
                                  have c64b0 : (t165 == true) = false := by simpa using c64
                                  (try (have c64b1 : decide (t165 = true) = false := by simpa using c64))
                                  (try (have c64b2 : (t165 == true) = false := by simpa using c64))
                                  (try (have c64b3 : ¬ (t165 = true) := by simpa using c64))
                                  clear c64
                                  obtain rfl := Option.some.inj H
                                  go_wp2_with (first | ((with_reducible refine gate_dst (N := 26) rfl ?_); refine Kd.R_lit (Kd.int .u8) _ 5 ?hg (N := 26) ?hd (xs := ([a2] : List Int)) (inner := [.int .u8 a2]) (ok := fun _ => True) (okp := fun _ => True) ?hr ?hp (fun _ hk => hk) trivial (Below.refl _ _) (Nat.le_refl _) (by simp) ?_; (case hd => rfl); (case hg => rfl); (case hr => first | (go_simp; done) | (go_simp; rfl)); (case hp => exact (Reps.one (show Kd.M (Kd.int .u8) _ _ _ a2 [.int .u8 a2] from rfl) (Reps.none _ _))); intro v162 w71 ho72 hb hg_ hnew_; clear hg_ hnew_; (first | rw [← Ny161.out] at ho72 | (simp only [Int.reduceToNat] at ho72; rw [← Ny161.out] at ho72)); have n0_ := Aside0.mk (Kd.R_lower ho72 (below_size (by repeat (first | (with_reducible first | exact HB.out | apply below_alloc | apply pw_below_drewN | apply below_drew1) | exact HB.out)))); have n1_ := Aside0.mk (below_step (by repeat (first | (with_reducible first | exact HB.out | apply below_alloc | apply pw_below_drewN | apply below_drew1) | exact HB.out)) hb); clear HB; have HO163 := n0_; have HB := n1_; clear n0_ n1_; clear hb ho72; have hcv73 := own_string (P := Try.prog) Try.underlying24 Try.underlying5 Try.underlying9 (Kd.own_of_R HO163.out)) | (go_at_call 13; (with_reducible refine (ascii_Token.calls kj11 (a0 ++ a1) true _ A18.out).mono ?_); rintro e w' ⟨rfl, ⟨nd, rfl⟩⟩) | (go_at_call 13; (with_reducible refine (ascii_Token.calls kj11 ((a0 ++ (strOfNums y161)) ++ a1) t165 _ A22.out).mono ?_); rintro e w' ⟨rfl, ⟨nd, rfl⟩⟩) | (go_at_call 13; (with_reducible refine (ascii_Token.calls kj11 a0 false _ A23.out).mono ?_); rintro e w' ⟨rfl, ⟨nd, rfl⟩⟩) | (go_at_call 13; (with_reducible refine (ascii_Token.calls kj11 (strOfNums y161) true _ A60.out).mono ?_); rintro e w' ⟨rfl, ⟨nd, rfl⟩⟩) | (go_at_call 13; (with_reducible refine (ascii_Token.calls kj11 a1 true _ A62.out).mono ?_); rintro e w' ⟨rfl, ⟨nd, rfl⟩⟩))
                                  go_ret
                                  exact ⟨by first | rfl | (simp [errW_none, errW_some] <;> rfl) | (simp [*, errW_none, errW_some] <;> rfl), by repeat (first | (with_reducible first | exact HB.out | apply below_alloc | apply pw_below_drewN | apply below_drew1) | exact HB.out)⟩
                              · replace c63 := Bool.eq_false_iff.mpr c63
                                subst c63
                                have H1 : (if (t165 == (a1.toList.isEmpty)) = true then ((ascii_Lower.f a0).bind fun t179 => ((ascii_Token.f kj11 t179).bind fun t180 => (some (t180 == false)))) else (some false)) = some r := by rw [if_neg (show ¬ (false = true) by decide)] at H; exact H
                                clear H
                                have H := H1
                                clear H1
                                by_cases c74 : (t165 == (a1.toList.isEmpty)) = true
                                · rw [if_pos c74] at H
                                  have c74b0 : (t165 == (a1.toList.isEmpty)) = true := c74
                                  (try (have c74b1 : decide (t165 = (a1.toList.isEmpty)) = true := by simpa using c74))
                                  (try (have c74b2 : (t165 == (a1.toList.isEmpty)) = true := by simpa using c74))
                                  clear c74
                                  replace H := Option.bind_eq_some_iff.mp H
                                  obtain ⟨t179, A750, H⟩ := H
                                  replace H : ((ascii_Token.f kj11 t179).bind fun t180 => (some (t180 == false))) = some r := H
                                  have A75 := Aside0.mk A750
                                  clear A750
                                  replace H := Option.bind_eq_some_iff.mp H
                                  obtain ⟨t180, A760, H⟩ := H
                                  replace H : (some (t180 == false)) = some r := H
                                  have A76 := Aside0.mk A760
                                  clear A760
                                  obtain rfl := Option.some.inj H
                                  go_wp2_with (first | ((with_reducible refine gate_dst (N := 26) rfl ?_); refine Kd.R_lit (Kd.int .u8) _ 5 ?hg (N := 26) ?hd (xs := ([a2] : List Int)) (inner := [.int .u8 a2]) (ok := fun _ => True) (okp := fun _ => True) ?hr ?hp (fun _ hk => hk) trivial (Below.refl _ _) (Nat.le_refl _) (by simp) ?_; (case hd => rfl); (case hg => rfl); (case hr => first | (go_simp; done) | (go_simp; rfl)); (case hp => exact (Reps.one (show Kd.M (Kd.int .u8) _ _ _ a2 [.int .u8 a2] from rfl) (Reps.none _ _))); intro v162 w77 ho78 hb hg_ hnew_; clear hg_ hnew_; (first | rw [← Ny161.out] at ho78 | (simp only [Int.reduceToNat] at ho78; rw [← Ny161.out] at ho78)); have n0_ := Aside0.mk (Kd.R_lower ho78 (below_size (by repeat (first | (with_reducible first | exact HB.out | apply below_alloc | apply pw_below_drewN | apply below_drew1) | exact HB.out)))); have n1_ := Aside0.mk (below_step (by repeat (first | (with_reducible first | exact HB.out | apply below_alloc | apply pw_below_drewN | apply below_drew1) | exact HB.out)) hb); clear HB; have HO163 := n0_; have HB := n1_; clear n0_ n1_; clear hb ho78; have hcv79 := own_string (P := Try.prog) Try.underlying24 Try.underlying5 Try.underlying9 (Kd.own_of_R HO163.out)) | (go_at_call 13; (with_reducible refine (ascii_Token.calls kj11 (a0 ++ a1) true _ A18.out).mono ?_); rintro e w' ⟨rfl, ⟨nd, rfl⟩⟩) | (go_at_call 13; (with_reducible refine (ascii_Token.calls kj11 ((a0 ++ (strOfNums y161)) ++ a1) t165 _ A22.out).mono ?_); rintro e w' ⟨rfl, ⟨nd, rfl⟩⟩) | (go_at_call 13; (with_reducible refine (ascii_Token.calls kj11 a0 false _ A23.out).mono ?_); rintro e w' ⟨rfl, ⟨nd, rfl⟩⟩) | (go_at_call 13; (with_reducible refine (ascii_Token.calls kj11 (strOfNums y161) true _ A60.out).mono ?_); rintro e w' ⟨rfl, ⟨nd, rfl⟩⟩) | (go_at_call 13; (with_reducible refine (ascii_Token.calls kj11 a1 false _ A62.out).mono ?_); rintro e w' ⟨rfl, ⟨nd, rfl⟩⟩) | (go_at_call 17; (with_reducible refine (ascii_Lower.calls a0 t179 _ A75.out).mono ?_); rintro e w80 ⟨rfl, hb⟩; have n0_ := Aside0.mk (Kd.R_below (by (with_reducible repeat (first | apply Kd.R_alloc | apply Kd.R_drewN | apply Kd.R_drew)); exact HO163.out) hb); have n1_ := Aside0.mk (below_step (by repeat (first | (with_reducible first | exact HB.out | apply below_alloc | apply pw_below_drewN | apply below_drew1) | exact HB.out)) hb); clear HO163; clear HB; have HO163 := n0_; have HB := n1_; clear n0_ n1_; (try clear hb); (try clear hb2); (try clear hk); (try clear hi)) | (go_at_call 13; (with_reducible refine (ascii_Token.calls kj11 t179 t180 _ A76.out).mono ?_); rintro e w' ⟨rfl, ⟨nd, rfl⟩⟩))
                                  go_ret
                                  exact ⟨by first | rfl | (simp [errW_none, errW_some] <;> rfl) | (simp [*, errW_none, errW_some] <;> rfl), by repeat (first | (with_reducible first | exact HB.out | apply below_alloc | apply pw_below_drewN | apply below_drew1) | exact HB.out)⟩
                                · rw [if_neg c74] at H
                                  have c74b0 : (t165 == (a1.toList.isEmpty)) = false := by simpa using c74
                                  (try (have c74b1 : decide (t165 = (a1.toList.isEmpty)) = false := by simpa using c74))
                                  (try (have c74b2 : (t165 == (a1.toList.isEmpty)) = false := by simpa using c74))
                                  (try (have c74b3 : ¬ (t165 = (a1.toList.isEmpty)) := by simpa using c74))
                                  clear c74
                                  obtain rfl := Option.some.inj H
                                  go_wp2_with (first | ((with_reducible refine gate_dst (N := 26) rfl ?_); refine Kd.R_lit (Kd.int .u8) _ 5 ?hg (N := 26) ?hd (xs := ([a2] : List Int)) (inner := [.int .u8 a2]) (ok := fun _ => True) (okp := fun _ => True) ?hr ?hp (fun _ hk => hk) trivial (Below.refl _ _) (Nat.le_refl _) (by simp) ?_; (case hd => rfl); (case hg => rfl); (case hr => first | (go_simp; done) | (go_simp; rfl)); (case hp => exact (Reps.one (show Kd.M (Kd.int .u8) _ _ _ a2 [.int .u8 a2] from rfl) (Reps.none _ _))); intro v162 w81 ho82 hb hg_ hnew_; clear hg_ hnew_; (first | rw [← Ny161.out] at ho82 | (simp only [Int.reduceToNat] at ho82; rw [← Ny161.out] at ho82)); have n0_ := Aside0.mk (Kd.R_lower ho82 (below_size (by repeat (first | (with_reducible first | exact HB.out | apply below_alloc | apply pw_below_drewN | apply below_drew1) | exact HB.out)))); have n1_ := Aside0.mk (below_step (by repeat (first | (with_reducible first | exact HB.out | apply below_alloc | apply pw_below_drewN | apply below_drew1) | exact HB.out)) hb); clear HB; have HO163 := n0_; have HB := n1_; clear n0_ n1_; clear hb ho82; have hcv83 := own_string (P := Try.prog) Try.underlying24 Try.underlying5 Try.underlying9 (Kd.own_of_R HO163.out)) | (go_at_call 13; (with_reducible refine (ascii_Token.calls kj11 (a0 ++ a1) true _ A18.out).mono ?_); rintro e w' ⟨rfl, ⟨nd, rfl⟩⟩) | (go_at_call 13; (with_reducible refine (ascii_Token.calls kj11 ((a0 ++ (strOfNums y161)) ++ a1) t165 _ A22.out).mono ?_); rintro e w' ⟨rfl, ⟨nd, rfl⟩⟩) | (go_at_call 13; (with_reducible refine (ascii_Token.calls kj11 a0 false _ A23.out).mono ?_); rintro e w' ⟨rfl, ⟨nd, rfl⟩⟩) | (go_at_call 13; (with_reducible refine (ascii_Token.calls kj11 (strOfNums y161) true _ A60.out).mono ?_); rintro e w' ⟨rfl, ⟨nd, rfl⟩⟩) | (go_at_call 13; (with_reducible refine (ascii_Token.calls kj11 a1 false _ A62.out).mono ?_); rintro e w' ⟨rfl, ⟨nd, rfl⟩⟩))
                                  go_ret
                                  exact ⟨by first | rfl | (simp [errW_none, errW_some] <;> rfl) | (simp [*, errW_none, errW_some] <;> rfl), by repeat (first | (with_reducible first | exact HB.out | apply below_alloc | apply pw_below_drewN | apply below_drew1) | exact HB.out)⟩
                            · replace c61 := Bool.eq_false_iff.mpr c61
                              subst c61
                              have H1 : (if (t165 == false) = true then ((ascii_Lower.f a0).bind fun t181 => ((ascii_Token.f kj11 t181).bind fun t182 => (some (t182 == false)))) else (some false)) = some r := by rw [if_neg (show ¬ (false = true) by decide)] at H; exact H
                              clear H
                              have H := H1
                              clear H1
                              by_cases c84 : (t165 == false) = true
                              · rw [if_pos c84] at H
                                have c84b0 : (t165 == false) = true := c84
                                (try (have c84b1 : decide (t165 = false) = true := by simpa using c84))
                                (try (have c84b2 : (t165 == false) = true := by simpa using c84))
                                clear c84
                                replace H := Option.bind_eq_some_iff.mp H
                                obtain ⟨t181, A850, H⟩ := H
                                replace H : ((ascii_Token.f kj11 t181).bind fun t182 => (some (t182 == false))) = some r := H
                                have A85 := Aside0.mk A850
                                clear A850
                                replace H := Option.bind_eq_some_iff.mp H
                                obtain ⟨t182, A860, H⟩ := H
                                replace H : (some (t182 == false)) = some r := H
                                have A86 := Aside0.mk A860
                                clear A860
                                obtain rfl := Option.some.inj H
                                go_wp2_with (first | ((with_reducible refine gate_dst (N := 26) rfl ?_); refine Kd.R_lit (Kd.int .u8) _ 5 ?hg (N := 26) ?hd (xs := ([a2] : List Int)) (inner := [.int .u8 a2]) (ok := fun _ => True) (okp := fun _ => True) ?hr ?hp (fun _ hk => hk) trivial (Below.refl _ _) (Nat.le_refl _) (by simp) ?_; (case hd => rfl); (case hg => rfl); (case hr => first | (go_simp; done) | (go_simp; rfl)); (case hp => exact (Reps.one (show Kd.M (Kd.int .u8) _ _ _ a2 [.int .u8 a2] from rfl) (Reps.none _ _))); intro v162 w87 ho88 hb hg_ hnew_; clear hg_ hnew_; (first | rw [← Ny161.out] at ho88 | (simp only [Int.reduceToNat] at ho88; rw [← Ny161.out] at ho88)); have n0_ := Aside0.mk (Kd.R_lower ho88 (below_size (by repeat (first | (with_reducible first | exact HB.out | apply below_alloc | apply pw_below_drewN | apply below_drew1) | exact HB.out)))); have n1_ := Aside0.mk (below_step (by repeat (first | (with_reducible first | exact HB.out | apply below_alloc | apply pw_below_drewN | apply below_drew1) | exact HB.out)) hb); clear HB; have HO163 := n0_; have HB := n1_; clear n0_ n1_; clear hb ho88; have hcv89 := own_string (P := Try.prog) Try.underlying24 Try.underlying5 Try.underlying9 (Kd.own_of_R HO163.out)) | (go_at_call 13; (with_reducible refine (ascii_Token.calls kj11 (a0 ++ a1) true _ A18.out).mono ?_); rintro e w' ⟨rfl, ⟨nd, rfl⟩⟩) | (go_at_call 13; (with_reducible refine (ascii_Token.calls kj11 ((a0 ++ (strOfNums y161)) ++ a1) t165 _ A22.out).mono ?_); rintro e w' ⟨rfl, ⟨nd, rfl⟩⟩) | (go_at_call 13; (with_reducible refine (ascii_Token.calls kj11 a0 false _ A23.out).mono ?_); rintro e w' ⟨rfl, ⟨nd, rfl⟩⟩) | (go_at_call 13; (with_reducible refine (ascii_Token.calls kj11 (strOfNums y161) false _ A60.out).mono ?_); rintro e w' ⟨rfl, ⟨nd, rfl⟩⟩) | (go_at_call 17; (with_reducible refine (ascii_Lower.calls a0 t181 _ A85.out).mono ?_); rintro e w90 ⟨rfl, hb⟩; have n0_ := Aside0.mk (Kd.R_below (by (with_reducible repeat (first | apply Kd.R_alloc | apply Kd.R_drewN | apply Kd.R_drew)); exact HO163.out) hb); have n1_ := Aside0.mk (below_step (by repeat (first | (with_reducible first | exact HB.out | apply below_alloc | apply pw_below_drewN | apply below_drew1) | exact HB.out)) hb); clear HO163; clear HB; have HO163 := n0_; have HB := n1_; clear n0_ n1_; (try clear hb); (try clear hb2); (try clear hk); (try clear hi)) | (go_at_call 13; (with_reducible refine (ascii_Token.calls kj11 t181 t182 _ A86.out).mono ?_); rintro e w' ⟨rfl, ⟨nd, rfl⟩⟩))
                                go_ret
                                exact ⟨by first | rfl | (simp [errW_none, errW_some] <;> rfl) | (simp [*, errW_none, errW_some] <;> rfl), by repeat (first | (with_reducible first | exact HB.out | apply below_alloc | apply pw_below_drewN | apply below_drew1) | exact HB.out)⟩
                              · rw [if_neg c84] at H
                                have c84b0 : (t165 == false) = false := by simpa using c84
                                (try (have c84b1 : decide (t165 = false) = false := by simpa using c84))
                                (try (have c84b2 : (t165 == false) = false := by simpa using c84))
                                (try (have c84b3 : ¬ (t165 = false) := by simpa using c84))
                                clear c84
                                obtain rfl := Option.some.inj H
                                go_wp2_with (first | ((with_reducible refine gate_dst (N := 26) rfl ?_); refine Kd.R_lit (Kd.int .u8) _ 5 ?hg (N := 26) ?hd (xs := ([a2] : List Int)) (inner := [.int .u8 a2]) (ok := fun _ => True) (okp := fun _ => True) ?hr ?hp (fun _ hk => hk) trivial (Below.refl _ _) (Nat.le_refl _) (by simp) ?_; (case hd => rfl); (case hg => rfl); (case hr => first | (go_simp; done) | (go_simp; rfl)); (case hp => exact (Reps.one (show Kd.M (Kd.int .u8) _ _ _ a2 [.int .u8 a2] from rfl) (Reps.none _ _))); intro v162 w91 ho92 hb hg_ hnew_; clear hg_ hnew_; (first | rw [← Ny161.out] at ho92 | (simp only [Int.reduceToNat] at ho92; rw [← Ny161.out] at ho92)); have n0_ := Aside0.mk (Kd.R_lower ho92 (below_size (by repeat (first | (with_reducible first | exact HB.out | apply below_alloc | apply pw_below_drewN | apply below_drew1) | exact HB.out)))); have n1_ := Aside0.mk (below_step (by repeat (first | (with_reducible first | exact HB.out | apply below_alloc | apply pw_below_drewN | apply below_drew1) | exact HB.out)) hb); clear HB; have HO163 := n0_; have HB := n1_; clear n0_ n1_; clear hb ho92; have hcv93 := own_string (P := Try.prog) Try.underlying24 Try.underlying5 Try.underlying9 (Kd.own_of_R HO163.out)) | (go_at_call 13; (with_reducible refine (ascii_Token.calls kj11 (a0 ++ a1) true _ A18.out).mono ?_); rintro e w' ⟨rfl, ⟨nd, rfl⟩⟩) | (go_at_call 13; (with_reducible refine (ascii_Token.calls kj11 ((a0 ++ (strOfNums y161)) ++ a1) t165 _ A22.out).mono ?_); rintro e w' ⟨rfl, ⟨nd, rfl⟩⟩) | (go_at_call 13; (with_reducible refine (ascii_Token.calls kj11 a0 false _ A23.out).mono ?_); rintro e w' ⟨rfl, ⟨nd, rfl⟩⟩) | (go_at_call 13; (with_reducible refine (ascii_Token.calls kj11 (strOfNums y161) false _ A60.out).mono ?_); rintro e w' ⟨rfl, ⟨nd, rfl⟩⟩))
                                go_ret
                                exact ⟨by first | rfl | (simp [errW_none, errW_some] <;> rfl) | (simp [*, errW_none, errW_some] <;> rfl), by repeat (first | (with_reducible first | exact HB.out | apply below_alloc | apply pw_below_drewN | apply below_drew1) | exact HB.out)⟩
                          · rw [if_neg c59] at H
                            have c59b0 : (a0.toList == ([] : List UInt8)) = false := beq_eq_false_iff_ne.mpr c59
                            have c59b1 : (a0.toList != ([] : List UInt8)) = true := bne_iff_ne.mpr c59
                            by_cases c94 : (t165 == false) = true
                            · rw [if_pos c94] at H
                              have c94b0 : (t165 == false) = true := c94
                              (try (have c94b1 : decide (t165 = false) = true := by simpa using c94))
                              (try (have c94b2 : (t165 == false) = true := by simpa using c94))
                              clear c94
                              replace H := Option.bind_eq_some_iff.mp H
                              obtain ⟨t183, A950, H⟩ := H
                              replace H : ((ascii_Token.f kj11 t183).bind fun t184 => (some (t184 == false))) = some r := H
                              have A95 := Aside0.mk A950
                              clear A950
                              replace H := Option.bind_eq_some_iff.mp H
                              obtain ⟨t184, A960, H⟩ := H
                              replace H : (some (t184 == false)) = some r := H
                              have A96 := Aside0.mk A960
                              clear A960
                              obtain rfl := Option.some.inj H
                              go_wp2_with (first | ((with_reducible refine gate_dst (N := 26) rfl ?_); refine Kd.R_lit (Kd.int .u8) _ 5 ?hg (N := 26) ?hd (xs := ([a2] : List Int)) (inner := [.int .u8 a2]) (ok := fun _ => True) (okp := fun _ => True) ?hr ?hp (fun _ hk => hk) trivial (Below.refl _ _) (Nat.le_refl _) (by simp) ?_; (case hd => rfl); (case hg => rfl); (case hr => first | (go_simp; done) | (go_simp; rfl)); (case hp => exact (Reps.one (show Kd.M (Kd.int .u8) _ _ _ a2 [.int .u8 a2] from rfl) (Reps.none _ _))); intro v162 w97 ho98 hb hg_ hnew_; clear hg_ hnew_; (first | rw [← Ny161.out] at ho98 | (simp only [Int.reduceToNat] at ho98; rw [← Ny161.out] at ho98)); have n0_ := Aside0.mk (Kd.R_lower ho98 (below_size (by repeat (first | (with_reducible first | exact HB.out | apply below_alloc | apply pw_below_drewN | apply below_drew1) | exact HB.out)))); have n1_ := Aside0.mk (below_step (by repeat (first | (with_reducible first | exact HB.out | apply below_alloc | apply pw_below_drewN | apply below_drew1) | exact HB.out)) hb); clear HB; have HO163 := n0_; have HB := n1_; clear n0_ n1_; clear hb ho98; have hcv99 := own_string (P := Try.prog) Try.underlying24 Try.underlying5 Try.underlying9 (Kd.own_of_R HO163.out)) | (go_at_call 13; (with_reducible refine (ascii_Token.calls kj11 (a0 ++ a1) true _ A18.out).mono ?_); rintro e w' ⟨rfl, ⟨nd, rfl⟩⟩) | (go_at_call 13; (with_reducible refine (ascii_Token.calls kj11 ((a0 ++ (strOfNums y161)) ++ a1) t165 _ A22.out).mono ?_); rintro e w' ⟨rfl, ⟨nd, rfl⟩⟩) | (go_at_call 13; (with_reducible refine (ascii_Token.calls kj11 a0 false _ A23.out).mono ?_); rintro e w' ⟨rfl, ⟨nd, rfl⟩⟩) | (go_at_call 17; (with_reducible refine (ascii_Lower.calls a0 t183 _ A95.out).mono ?_); rintro e w100 ⟨rfl, hb⟩; have n0_ := Aside0.mk (Kd.R_below (by (with_reducible repeat (first | apply Kd.R_alloc | apply Kd.R_drewN | apply Kd.R_drew)); exact HO163.out) hb); have n1_ := Aside0.mk (below_step (by repeat (first | (with_reducible first | exact HB.out | apply below_alloc | apply pw_below_drewN | apply below_drew1) | exact HB.out)) hb); clear HO163; clear HB; have HO163 := n0_; have HB := n1_; clear n0_ n1_; (try clear hb); (try clear hb2); (try clear hk); (try clear hi)) | (go_at_call 13; (with_reducible refine (ascii_Token.calls kj11 t183 t184 _ A96.out).mono ?_); rintro e w' ⟨rfl, ⟨nd, rfl⟩⟩))
                              go_ret
                              exact ⟨by first | rfl | (simp [errW_none, errW_some] <;> rfl) | (simp [*, errW_none, errW_some] <;> rfl), by repeat (first | (with_reducible first | exact HB.out | apply below_alloc | apply pw_below_drewN | apply below_drew1) | exact HB.out)⟩
                            · rw [if_neg c94] at H
                              have c94b0 : (t165 == false) = false := by simpa using c94
                              (try (have c94b1 : decide (t165 = false) = false := by simpa using c94))
                              (try (have c94b2 : (t165 == false) = false := by simpa using c94))
                              (try (have c94b3 : ¬ (t165 = false) := by simpa using c94))
                              clear c94
                              obtain rfl := Option.some.inj H
                              go_wp2_with (first | ((with_reducible refine gate_dst (N := 26) rfl ?_); refine Kd.R_lit (Kd.int .u8) _ 5 ?hg (N := 26) ?hd (xs := ([a2] : List Int)) (inner := [.int .u8 a2]) (ok := fun _ => True) (okp := fun _ => True) ?hr ?hp (fun _ hk => hk) trivial (Below.refl _ _) (Nat.le_refl _) (by simp) ?_; (case hd => rfl); (case hg => rfl); (case hr => first | (go_simp; done) | (go_simp; rfl)); (case hp => exact (Reps.one (show Kd.M (Kd.int .u8) _ _ _ a2 [.int .u8 a2] from rfl) (Reps.none _ _))); intro v162 w101 ho102 hb hg_ hnew_; clear hg_ hnew_; (first | rw [← Ny161.out] at ho102 | (simp only [Int.reduceToNat] at ho102; rw [← Ny161.out] at ho102)); have n0_ := Aside0.mk (Kd.R_lower ho102 (below_size (by repeat (first | (with_reducible first | exact HB.out | apply below_alloc | apply pw_below_drewN | apply below_drew1) | exact HB.out)))); have n1_ := Aside0.mk (below_step (by repeat (first | (with_reducible first | exact HB.out | apply below_alloc | apply pw_below_drewN | apply below_drew1) | exact HB.out)) hb); clear HB; have HO163 := n0_; have HB := n1_; clear n0_ n1_; clear hb ho102; have hcv103 := own_string (P := Try.prog) Try.underlying24 Try.underlying5 Try.underlying9 (Kd.own_of_R HO163.out)) | (go_at_call 13; (with_reducible refine (ascii_Token.calls kj11 (a0 ++ a1) true _ A18.out).mono ?_); rintro e w' ⟨rfl, ⟨nd, rfl⟩⟩) | (go_at_call 13; (with_reducible refine (ascii_Token.calls kj11 ((a0 ++ (strOfNums y161)) ++ a1) t165 _ A22.out).mono ?_); rintro e w' ⟨rfl, ⟨nd, rfl⟩⟩) | (go_at_call 13; (with_reducible refine (ascii_Token.calls kj11 a0 false _ A23.out).mono ?_); rintro e w' ⟨rfl, ⟨nd, rfl⟩⟩))
                              go_ret
                              exact ⟨by first | rfl | (simp [errW_none, errW_some] <;> rfl) | (simp [*, errW_none, errW_some] <;> rfl), by repeat (first | (with_reducible first | exact HB.out | apply below_alloc | apply pw_below_drewN | apply below_drew1) | exact HB.out)⟩
                      · rw [if_neg c21] at H
                        exact absurd H (by simp)
                    · rw [if_neg c20] at H
                      exact absurd H (by simp)
                  · replace c19 := Bool.eq_false_iff.mpr c19
                    subst c19
                    have H1 : (some false) = some r := by rw [if_neg (show ¬ (false = true) by decide)] at H; exact H
                    clear H
                    have H := H1
                    clear H1
                    obtain rfl := Option.some.inj H
                    go_wp2_with (first | ((with_reducible refine gate_dst (N := 26) rfl ?_); refine Kd.R_lit (Kd.int .u8) _ 5 ?hg (N := 26) ?hd (xs := ([a2] : List Int)) (inner := [.int .u8 a2]) (ok := fun _ => True) (okp := fun _ => True) ?hr ?hp (fun _ hk => hk) trivial (Below.refl _ _) (Nat.le_refl _) (by simp) ?_; (case hd => rfl); (case hg => rfl); (case hr => first | (go_simp; done) | (go_simp; rfl)); (case hp => exact (Reps.one (show Kd.M (Kd.int .u8) _ _ _ a2 [.int .u8 a2] from rfl) (Reps.none _ _))); intro v162 w104 ho105 hb hg_ hnew_; clear hg_ hnew_; (first | rw [← Ny161.out] at ho105 | (simp only [Int.reduceToNat] at ho105; rw [← Ny161.out] at ho105)); have n0_ := Aside0.mk (Kd.R_lower ho105 (below_size (by repeat (first | (with_reducible first | exact HB.out | apply below_alloc | apply pw_below_drewN | apply below_drew1) | exact HB.out)))); have n1_ := Aside0.mk (below_step (by repeat (first | (with_reducible first | exact HB.out | apply below_alloc | apply pw_below_drewN | apply below_drew1) | exact HB.out)) hb); clear HB; have HO163 := n0_; have HB := n1_; clear n0_ n1_; clear hb ho105; have hcv106 := own_string (P := Try.prog) Try.underlying24 Try.underlying5 Try.underlying9 (Kd.own_of_R HO163.out)) | (go_at_call 13; (with_reducible refine (ascii_Token.calls kj11 (a0 ++ a1) false _ A18.out).mono ?_); rintro e w' ⟨rfl, ⟨nd, rfl⟩⟩))
                    go_ret
                    exact ⟨by first | rfl | (simp [errW_none, errW_some] <;> rfl) | (simp [*, errW_none, errW_some] <;> rfl), by repeat (first | (with_reducible first | exact HB.out | apply below_alloc | apply pw_below_drewN | apply below_drew1) | exact HB.out)⟩
                · rw [if_neg c17] at H
                  exact absurd H (by simp)
              · replace c16 := Bool.eq_false_iff.mpr c16
                subst c16
                have H1 : (if a0.size + (strOfNums y161).size ≤ 9223372036854775807 then (if (a0 ++ (strOfNums y161)).size + a1.size ≤ 9223372036854775807 then ((ascii_Token.f kj11 ((a0 ++ (strOfNums y161)) ++ a1)).bind fun t185 => ((ascii_Token.f kj11 a0).bind fun t186 => (if t186 = true then ((ascii_Token.f kj11 (strOfNums y161)).bind fun t187 => (if t187 = true then ((ascii_Token.f kj11 a1).bind fun t188 => (if t188 = true then (if (t185 == true) = true then ((ascii_Lower.f a0).bind fun t189 => ((ascii_Token.f kj11 t189).bind fun t190 => (some (t190 == t186)))) else (some false)) else (if (t185 == (a1.toList.isEmpty)) = true then ((ascii_Lower.f a0).bind fun t191 => ((ascii_Token.f kj11 t191).bind fun t192 => (some (t192 == t186)))) else (some false)))) else (if (t185 == false) = true then ((ascii_Lower.f a0).bind fun t193 => ((ascii_Token.f kj11 t193).bind fun t194 => (some (t194 == t186)))) else (some false)))) else (if a0.toList = ([] : List UInt8) then ((ascii_Token.f kj11 (strOfNums y161)).bind fun t195 => (if t195 = true then ((ascii_Token.f kj11 a1).bind fun t196 => (if t196 = true then (if (t185 == true) = true then ((ascii_Lower.f a0).bind fun t197 => ((ascii_Token.f kj11 t197).bind fun t198 => (some (t198 == t186)))) else (some false)) else (if (t185 == (a1.toList.isEmpty)) = true then ((ascii_Lower.f a0).bind fun t199 => ((ascii_Token.f kj11 t199).bind fun t200 => (some (t200 == t186)))) else (some false)))) else (if (t185 == false) = true then ((ascii_Lower.f a0).bind fun t201 => ((ascii_Token.f kj11 t201).bind fun t202 => (some (t202 == t186)))) else (some false)))) else (if (t185 == false) = true then ((ascii_Lower.f a0).bind fun t203 => ((ascii_Token.f kj11 t203).bind fun t204 => (some (t204 == t186)))) else (some false)))))) else (none)) else (none)) = some r := by rw [if_neg (show ¬ (false = true) by decide)] at H; exact H
                clear H
                have H := H1
                clear H1
                by_cases c107 : a0.size + (strOfNums y161).size ≤ 9223372036854775807
                · rw [if_pos c107] at H
                  have c107b0 := eq_true c107
                  have c107b1 : decide (a0.size + (strOfNums y161).size ≤ 9223372036854775807) = true := decide_eq_true c107
                  try have c107b2 : (9223372036854775807 < a0.size + (strOfNums y161).size) = False := eq_false (Nat.not_lt.2 c107)
                  by_cases c108 : (a0 ++ (strOfNums y161)).size + a1.size ≤ 9223372036854775807
                  · rw [if_pos c108] at H
                    have c108b0 := eq_true c108
                    have c108b1 : decide ((a0 ++ (strOfNums y161)).size + a1.size ≤ 9223372036854775807) = true := decide_eq_true c108
                    try have c108b2 : (9223372036854775807 < (a0 ++ (strOfNums y161)).size + a1.size) = False := eq_false (Nat.not_lt.2 c108)
                    replace H := Option.bind_eq_some_iff.mp H
                    obtain ⟨t185, A1090, H⟩ := H
                    replace H : ((ascii_Token.f kj11 a0).bind fun t186 => (if t186 = true then ((ascii_Token.f kj11 (strOfNums y161)).bind fun t187 => (if t187 = true then ((ascii_Token.f kj11 a1).bind fun t188 => (if t188 = true then (if (t185 == true) = true then ((ascii_Lower.f a0).bind fun t189 => ((ascii_Token.f kj11 t189).bind fun t190 => (some (t190 == t186)))) else (some false)) else (if (t185 == (a1.toList.isEmpty)) = true then ((ascii_Lower.f a0).bind fun t191 => ((ascii_Token.f kj11 t191).bind fun t192 => (some (t192 == t186)))) else (some false)))) else (if (t185 == false) = true then ((ascii_Lower.f a0).bind fun t193 => ((ascii_Token.f kj11 t193).bind fun t194 => (some (t194 == t186)))) else (some false)))) else (if a0.toList = ([] : List UInt8) then ((ascii_Token.f kj11 (strOfNums y161)).bind fun t195 => (if t195 = true then ((ascii_Token.f kj11 a1).bind fun t196 => (if t196 = true then (if (t185 == true) = true then ((ascii_Lower.f a0).bind fun t197 => ((ascii_Token.f kj11 t197).bind fun t198 => (some (t198 == t186)))) else (some false)) else (if (t185 == (a1.toList.isEmpty)) = true then ((ascii_Lower.f a0).bind fun t199 => ((ascii_Token.f kj11 t199).bind fun t200 => (some (t200 == t186)))) else (some false)))) else (if (t185 == false) = true then ((ascii_Lower.f a0).bind fun t201 => ((ascii_Token.f kj11 t201).bind fun t202 => (some (t202 == t186)))) else (some false)))) else (if (t185 == false) = true then ((ascii_Lower.f a0).bind fun t203 => ((ascii_Token.f kj11 t203).bind fun t204 => (some (t204 == t186)))) else (some false))))) = some r := H
                    have A109 := Aside0.mk A1090
                    clear A1090
                    replace H := Option.bind_eq_some_iff.mp H
                    obtain ⟨t186, A1100, H⟩ := H
                    replace H : (if t186 = true then ((ascii_Token.f kj11 (strOfNums y161)).bind fun t187 => (if t187 = true then ((ascii_Token.f kj11 a1).bind fun t188 => (if t188 = true then (if (t185 == true) = true then ((ascii_Lower.f a0).bind fun t189 => ((ascii_Token.f kj11 t189).bind fun t190 => (some (t190 == t186)))) else (some false)) else (if (t185 == (a1.toList.isEmpty)) = true then ((ascii_Lower.f a0).bind fun t191 => ((ascii_Token.f kj11 t191).bind fun t192 => (some (t192 == t186)))) else (some false)))) else (if (t185 == false) = true then ((ascii_Lower.f a0).bind fun t193 => ((ascii_Token.f kj11 t193).bind fun t194 => (some (t194 == t186)))) else (some false)))) else (if a0.toList = ([] : List UInt8) then ((ascii_Token.f kj11 (strOfNums y161)).bind fun t195 => (if t195 = true then ((ascii_Token.f kj11 a1).bind fun t196 => (if t196 = true then (if (t185 == true) = true then ((ascii_Lower.f a0).bind fun t197 => ((ascii_Token.f kj11 t197).bind fun t198 => (some (t198 == t186)))) else (some false)) else (if (t185 == (a1.toList.isEmpty)) = true then ((ascii_Lower.f a0).bind fun t199 => ((ascii_Token.f kj11 t199).bind fun t200 => (some (t200 == t186)))) else (some false)))) else (if (t185 == false) = true then ((ascii_Lower.f a0).bind fun t201 => ((ascii_Token.f kj11 t201).bind fun t202 => (some (t202 == t186)))) else (some false)))) else (if (t185 == false) = true then ((ascii_Lower.f a0).bind fun t203 => ((ascii_Token.f kj11 t203).bind fun t204 => (some (t204 == t186)))) else (some false)))) = some r := H
                    have A110 := Aside0.mk A1100
                    clear A1100
                    by_cases c111 : t186 = true
                    · subst c111
                      have H1 : ((ascii_Token.f kj11 (strOfNums y161)).bind fun t187 => (if t187 = true then ((ascii_Token.f kj11 a1).bind fun t188 => (if t188 = true then (if (t185 == true) = true then ((ascii_Lower.f a0).bind fun t189 => ((ascii_Token.f kj11 t189).bind fun t190 => (some (t190 == true)))) else (some false)) else (if (t185 == (a1.toList.isEmpty)) = true then ((ascii_Lower.f a0).bind fun t191 => ((ascii_Token.f kj11 t191).bind fun t192 => (some (t192 == true)))) else (some false)))) else (if (t185 == false) = true then ((ascii_Lower.f a0).bind fun t193 => ((ascii_Token.f kj11 t193).bind fun t194 => (some (t194 == true)))) else (some false)))) = some r := by rw [if_pos rfl] at H; exact H
                      clear H
                      have H := H1
                      clear H1
                      replace H := Option.bind_eq_some_iff.mp H
                      obtain ⟨t187, A1120, H⟩ := H
                      replace H : (if t187 = true then ((ascii_Token.f kj11 a1).bind fun t188 => (if t188 = true then (if (t185 == true) = true then ((ascii_Lower.f a0).bind fun t189 => ((ascii_Token.f kj11 t189).bind fun t190 => (some (t190 == true)))) else (some false)) else (if (t185 == (a1.toList.isEmpty)) = true then ((ascii_Lower.f a0).bind fun t191 => ((ascii_Token.f kj11 t191).bind fun t192 => (some (t192 == true)))) else (some false)))) else (if (t185 == false) = true then ((ascii_Lower.f a0).bind fun t193 => ((ascii_Token.f kj11 t193).bind fun t194 => (some (t194 == true)))) else (some false))) = some r := H
                      have A112 := Aside0.mk A1120
                      clear A1120
                      by_cases c113 : t187 = true
                      · subst c113
                        have H1 : ((ascii_Token.f kj11 a1).bind fun t188 => (if t188 = true then (if (t185 == true) = true then ((ascii_Lower.f a0).bind fun t189 => ((ascii_Token.f kj11 t189).bind fun t190 => (some (t190 == true)))) else (some false)) else (if (t185 == (a1.toList.isEmpty)) = true then ((ascii_Lower.f a0).bind fun t191 => ((ascii_Token.f kj11 t191).bind fun t192 => (some (t192 == true)))) else (some false)))) = some r := by rw [if_pos rfl] at H; exact H
                        clear H
                        have H := H1
                        clear H1
                        replace H := Option.bind_eq_some_iff.mp H
                        obtain ⟨t188, A1140, H⟩ := H
                        replace H : (if t188 = true then (if (t185 == true) = true then ((ascii_Lower.f a0).bind fun t189 => ((ascii_Token.f kj11 t189).bind fun t190 => (some (t190 == true)))) else (some false)) else (if (t185 == (a1.toList.isEmpty)) = true then ((ascii_Lower.f a0).bind fun t191 => ((ascii_Token.f kj11 t191).bind fun t192 => (some (t192 == true)))) else (some false))) = some r := H
                        have A114 := Aside0.mk A1140
                        clear A1140
                        by_cases c115 : t188 = true
                        · subst c115
                          have H1 : (if (t185 == true) = true then ((ascii_Lower.f a0).bind fun t189 => ((ascii_Token.f kj11 t189).bind fun t190 => (some (t190 == true)))) else (some false)) = some r := by rw [if_pos rfl] at H; exact H
                          clear H
                          have H := H1
                          clear H1
                          by_cases c116 : (t185 == true) = true
                          · rw [if_pos c116] at H
                            have c116b0 : (t185 == true) = true := c116
                            (try (have c116b1 : decide (t185 = true) = true := by simpa using c116))
                            (try (have c116b2 : (t185 == true) = true := by simpa using c116))
                            clear c116
                            replace H := Option.bind_eq_some_iff.mp H
                            obtain ⟨t189, A1170, H⟩ := H
                            replace H : ((ascii_Token.f kj11 t189).bind fun t190 => (some (t190 == true))) = some r := H
                            have A117 := Aside0.mk A1170
                            clear A1170
                            replace H := Option.bind_eq_some_iff.mp H
                            obtain ⟨t190, A1180, H⟩ := H
                            replace H : (some (t190 == true)) = some r := H
                            have A118 := Aside0.mk A1180
                            clear A1180
                            obtain rfl := Option.some.inj H
                            go_wp2_with (first | ((with_reducible refine gate_dst (N := 26) rfl ?_); refine Kd.R_lit (Kd.int .u8) _ 5 ?hg (N := 26) ?hd (xs := ([a2] : List Int)) (inner := [.int .u8 a2]) (ok := fun _ => True) (okp := fun _ => True) ?hr ?hp (fun _ hk => hk) trivial (Below.refl _ _) (Nat.le_refl _) (by simp) ?_; (case hd => rfl); (case hg => rfl); (case hr => first | (go_simp; done) | (go_simp; rfl)); (case hp => exact (Reps.one (show Kd.M (Kd.int .u8) _ _ _ a2 [.int .u8 a2] from rfl) (Reps.none _ _))); intro v162 w119 ho120 hb hg_ hnew_; clear hg_ hnew_; (first | rw [← Ny161.out] at ho120 | (simp only [Int.reduceToNat] at ho120; rw [← Ny161.out] at ho120)); have n0_ := Aside0.mk (Kd.R_lower ho120 (below_size (by repeat (first | (with_reducible first | exact HB.out | apply below_alloc | apply pw_below_drewN | apply below_drew1) | exact HB.out)))); have n1_ := Aside0.mk (below_step (by repeat (first | (with_reducible first | exact HB.out | apply below_alloc | apply pw_below_drewN | apply below_drew1) | exact HB.out)) hb); clear HB; have HO163 := n0_; have HB := n1_; clear n0_ n1_; clear hb ho120; have hcv121 := own_string (P := Try.prog) Try.underlying24 Try.underlying5 Try.underlying9 (Kd.own_of_R HO163.out)) | (go_at_call 13; (with_reducible refine (ascii_Token.calls kj11 ((a0 ++ (strOfNums y161)) ++ a1) t185 _ A109.out).mono ?_); rintro e w' ⟨rfl, ⟨nd, rfl⟩⟩) | (go_at_call 13; (with_reducible refine (ascii_Token.calls kj11 a0 true _ A110.out).mono ?_); rintro e w' ⟨rfl, ⟨nd, rfl⟩⟩) | (go_at_call 13; (with_reducible refine (ascii_Token.calls kj11 (strOfNums y161) true _ A112.out).mono ?_); rintro e w' ⟨rfl, ⟨nd, rfl⟩⟩) | (go_at_call 13; (with_reducible refine (ascii_Token.calls kj11 a1 true _ A114.out).mono ?_); rintro e w' ⟨rfl, ⟨nd, rfl⟩⟩) | (go_at_call 17; (with_reducible refine (ascii_Lower.calls a0 t189 _ A117.out).mono ?_); rintro e w122 ⟨rfl, hb⟩; have n0_ := Aside0.mk (Kd.R_below (by (with_reducible repeat (first | apply Kd.R_alloc | apply Kd.R_drewN | apply Kd.R_drew)); exact HO163.out) hb); have n1_ := Aside0.mk (below_step (by repeat (first | (with_reducible first | exact HB.out | apply below_alloc | apply pw_below_drewN | apply below_drew1) | exact HB.out)) hb); clear HO163; clear HB; have HO163 := n0_; have HB := n1_; clear n0_ n1_; (try clear hb); (try clear hb2); (try clear hk); (try clear hi)) | (go_at_call 13; (with_reducible refine (ascii_Token.calls kj11 t189 t190 _ A118.out).mono ?_); rintro e w' ⟨rfl, ⟨nd, rfl⟩⟩))
                            go_ret
                            exact ⟨by first | rfl | (simp [errW_none, errW_some] <;> rfl) | (simp [*, errW_none, errW_some] <;> rfl), by repeat (first | (with_reducible first | exact HB.out | apply below_alloc | apply pw_below_drewN | apply below_drew1) | exact HB.out)⟩
                          · rw [if_neg c116] at H
                            have c116b0 : (t185 == true) = false := by simpa using c116
                            (try (have c116b1 : decide (t185 = true) = false := by simpa using c116))
                            (try (have c116b2 : (t185 == true) = false := by simpa using c116))
                            (try (have c116b3 : ¬ (t185 = true) := by simpa using c116))
                            clear c116
                            obtain rfl := Option.some.inj H
                            go_wp2_with (first | ((with_reducible refine gate_dst (N := 26) rfl ?_); refine Kd.R_lit (Kd.int .u8) _ 5 ?hg (N := 26) ?hd (xs := ([a2] : List Int)) (inner := [.int .u8 a2]) (ok := fun _ => True) (okp := fun _ => True) ?hr ?hp (fun _ hk => hk) trivial (Below.refl _ _) (Nat.le_refl _) (by simp) ?_; (case hd => rfl); (case hg => rfl); (case hr => first | (go_simp; done) | (go_simp; rfl)); (case hp => exact (Reps.one (show Kd.M (Kd.int .u8) _ _ _ a2 [.int .u8 a2] from rfl) (Reps.none _ _))); intro v162 w123 ho124 hb hg_ hnew_; clear hg_ hnew_; (first | rw [← Ny161.out] at ho124 | (simp only [Int.reduceToNat] at ho124; rw [← Ny161.out] at ho124)); have n0_ := Aside0.mk (Kd.R_lower ho124 (below_size (by repeat (first | (with_reducible first | exact HB.out | apply below_alloc | apply pw_below_drewN | apply below_drew1) | exact HB.out)))); have n1_ := Aside0.mk (below_step (by repeat (first | (with_reducible first | exact HB.out | apply below_alloc | apply pw_below_drewN | apply below_drew1) | exact HB.out)) hb); clear HB; have HO163 := n0_; have HB := n1_; clear n0_ n1_; clear hb ho124; have hcv125 := own_string (P := Try.prog) Try.underlying24 Try.underlying5 Try.underlying9 (Kd.own_of_R HO163.out)) | (go_at_call 13; (with_reducible refine (ascii_Token.calls kj11 ((a0 ++ (strOfNums y161)) ++ a1) t185 _ A109.out).mono ?_); rintro e w' ⟨rfl, ⟨nd, rfl⟩⟩) | (go_at_call 13; (with_reducible refine (ascii_Token.calls kj11 a0 true _ A110.out).mono ?_); rintro e w' ⟨rfl, ⟨nd, rfl⟩⟩) | (go_at_call 13; (with_reducible refine (ascii_Token.calls kj11 (strOfNums y161) true _ A112.out).mono ?_); rintro e w' ⟨rfl, ⟨nd, rfl⟩⟩) | (go_at_call 13; (with_reducible refine (ascii_Token.calls kj11 a1 true _ A114.out).mono ?_); rintro e w' ⟨rfl, ⟨nd, rfl⟩⟩))
                            go_ret
                            exact ⟨by first | rfl | (simp [errW_none, errW_some] <;> rfl) | (simp [*, errW_none, errW_some] <;> rfl), by repeat (first | (with_reducible first | exact HB.out | apply below_alloc | apply pw_below_drewN | apply below_drew1) | exact HB.out)⟩
                        · replace c115 := Bool.eq_false_iff.mpr c115
                          subst c115
                          have H1 : (if (t185 == (a1.toList.isEmpty)) = true then ((ascii_Lower.f a0).bind fun t191 => ((ascii_Token.f kj11 t191).bind fun t192 => (some (t192 == true)))) else (some false)) = some r := by rw [if_neg (show ¬ (false = true) by decide)] at H; exact H
                          clear H
                          have H := H1
                          clear H1
                          by_cases c126 : (t185 == (a1.toList.isEmpty)) = true
                          · rw [if_pos c126] at H
                            have c126b0 : (t185 == (a1.toList.isEmpty)) = true := c126
                            (try (have c126b1 : decide (t185 = (a1.toList.isEmpty)) = true := by simpa using c126))
                            (try (have c126b2 : (t185 == (a1.toList.isEmpty)) = true := by simpa using c126))
                            clear c126
                            replace H := Option.bind_eq_some_iff.mp H
                            obtain ⟨t191, A1270, H⟩ := H
                            replace H : ((ascii_Token.f kj11 t191).bind fun t192 => (some (t192 == true))) = some r := H
                            have A127 := Aside0.mk A1270
                            clear A1270
                            replace H := Option.bind_eq_some_iff.mp H
                            obtain ⟨t192, A1280, H⟩ := H
                            replace H : (some (t192 == true)) = some r := H
                            have A128 := Aside0.mk A1280
                            clear A1280
                            obtain rfl := Option.some.inj H
                            go_wp2_with (first | ((with_reducible refine gate_dst (N := 26) rfl ?_); refine Kd.R_lit (Kd.int .u8) _ 5 ?hg (N := 26) ?hd (xs := ([a2] : List Int)) (inner := [.int .u8 a2]) (ok := fun _ => True) (okp := fun _ => True) ?hr ?hp (fun _ hk => hk) trivial (Below.refl _ _) (Nat.le_refl _) (by simp) ?_; (case hd => rfl); (case hg => rfl); (case hr => first | (go_simp; done) | (go_simp; rfl)); (case hp => exact (Reps.one (show Kd.M (Kd.int .u8) _ _ _ a2 [.int .u8 a2] from rfl) (Reps.none _ _))); intro v162 w129 ho130 hb hg_ hnew_; clear hg_ hnew_; (first | rw [← Ny161.out] at ho130 | (simp only [Int.reduceToNat] at ho130; rw [← Ny161.out] at ho130)); have n0_ := Aside0.mk (Kd.R_lower ho130 (below_size (by repeat (first | (with_reducible first | exact HB.out | apply below_alloc | apply pw_below_drewN | apply below_drew1) | exact HB.out)))); have n1_ := Aside0.mk (below_step (by repeat (first | (with_reducible first | exact HB.out | apply below_alloc | apply pw_below_drewN | apply below_drew1) | exact HB.out)) hb); clear HB; have HO163 := n0_; have HB := n1_; clear n0_ n1_; clear hb ho130; have hcv131 := own_string (P := Try.prog) Try.underlying24 Try.underlying5 Try.underlying9 (Kd.own_of_R HO163.out)) | (go_at_call 13; (with_reducible refine (ascii_Token.calls kj11 ((a0 ++ (strOfNums y161)) ++ a1) t185 _ A109.out).mono ?_); rintro e w' ⟨rfl, ⟨nd, rfl⟩⟩) | (go_at_call 13; (with_reducible refine (ascii_Token.calls kj11 a0 true _ A110.out).mono ?_); rintro e w' ⟨rfl, ⟨nd, rfl⟩⟩) | (go_at_call 13; (with_reducible refine (ascii_Token.calls kj11 (strOfNums y161) true _ A112.out).mono ?_); rintro e w' ⟨rfl, ⟨nd, rfl⟩⟩) | (go_at_call 13; (with_reducible refine (ascii_Token.calls kj11 a1 false _ A114.out).mono ?_); rintro e w' ⟨rfl, ⟨nd, rfl⟩⟩) | (go_at_call 17; (with_reducible refine (ascii_Lower.calls a0 t191 _ A127.out).mono ?_); rintro e w132 ⟨rfl, hb⟩; have n0_ := Aside0.mk (Kd.R_below (by (with_reducible repeat (first | apply Kd.R_alloc | apply Kd.R_drewN | apply Kd.R_drew)); exact HO163.out) hb); have n1_ := Aside0.mk (below_step (by repeat (first | (with_reducible first | exact HB.out | apply below_alloc | apply pw_below_drewN | apply below_drew1) | exact HB.out)) hb); clear HO163; clear HB; have HO163 := n0_; have HB := n1_; clear n0_ n1_; (try clear hb); (try clear hb2); (try clear hk); (try clear hi)) | (go_at_call 13; (with_reducible refine (ascii_Token.calls kj11 t191 t192 _ A128.out).mono ?_); rintro e w' ⟨rfl, ⟨nd, rfl⟩⟩))
                            go_ret
                            exact ⟨by first | rfl | (simp [errW_none, errW_some] <;> rfl) | (simp [*, errW_none, errW_some] <;> rfl), by repeat (first | (with_reducible first | exact HB.out | apply below_alloc | apply pw_below_drewN | apply below_drew1) | exact HB.out)⟩
                          · rw [if_neg c126] at H
                            have c126b0 : (t185 == (a1.toList.isEmpty)) = false := by simpa using c126
                            (try (have c126b1 : decide (t185 = (a1.toList.isEmpty)) = false := by simpa using c126))
                            (try (have c126b2 : (t185 == (a1.toList.isEmpty)) = false := by simpa using c126))
                            (try (have c126b3 : ¬ (t185 = (a1.toList.isEmpty)) := by simpa using c126))
                            clear c126
                            obtain rfl := Option.some.inj H
                            go_wp2_with (first | ((with_reducible refine gate_dst (N := 26) rfl ?_); refine Kd.R_lit (Kd.int .u8) _ 5 ?hg (N := 26) ?hd (xs := ([a2] : List Int)) (inner := [.int .u8 a2]) (ok := fun _ => True) (okp := fun _ => True) ?hr ?hp (fun _ hk => hk) trivial (Below.refl _ _) (Nat.le_refl _) (by simp) ?_; (case hd => rfl); (case hg => rfl); (case hr => first | (go_simp; done) | (go_simp; rfl)); (case hp => exact (Reps.one (show Kd.M (Kd.int .u8) _ _ _ a2 [.int .u8 a2] from rfl) (Reps.none _ _))); intro v162 w133 ho134 hb hg_ hnew_; clear hg_ hnew_; (first | rw [← Ny161.out] at ho134 | (simp only [Int.reduceToNat] at ho134; rw [← Ny161.out] at ho134)); have n0_ := Aside0.mk (Kd.R_lower ho134 (below_size (by repeat (first | (with_reducible first | exact HB.out | apply below_alloc | apply pw_below_drewN | apply below_drew1) | exact HB.out)))); have n1_ := Aside0.mk (below_step (by repeat (first | (with_reducible first | exact HB.out | apply below_alloc | apply pw_below_drewN | apply below_drew1) | exact HB.out)) hb); clear HB; have HO163 := n0_; have HB := n1_; clear n0_ n1_; clear hb ho134; have hcv135 := own_string (P := Try.prog) Try.underlying24 Try.underlying5 Try.underlying9 (Kd.own_of_R HO163.out)) | (go_at_call 13; (with_reducible refine (ascii_Token.calls kj11 ((a0 ++ (strOfNums y161)) ++ a1) t185 _ A109.out).mono ?_); rintro e w' ⟨rfl, ⟨nd, rfl⟩⟩) | (go_at_call 13; (with_reducible refine (ascii_Token.calls kj11 a0 true _ A110.out).mono ?_); rintro e w' ⟨rfl, ⟨nd, rfl⟩⟩) | (go_at_call 13; (with_reducible refine (ascii_Token.calls kj11 (strOfNums y161) true _ A112.out).mono ?_); rintro e w' ⟨rfl, ⟨nd, rfl⟩⟩) | (go_at_call 13; (with_reducible refine (ascii_Token.calls kj11 a1 false _ A114.out).mono ?_); rintro e w' ⟨rfl, ⟨nd, rfl⟩⟩))
                            go_ret
                            exact ⟨by first | rfl | (simp [errW_none, errW_some] <;> rfl) | (simp [*, errW_none, errW_some] <;> rfl), by repeat (first | (with_reducible first | exact HB.out | apply below_alloc | apply pw_below_drewN | apply below_drew1) | exact HB.out)⟩
                      · replace c113 := Bool.eq_false_iff.mpr c113
                        subst c113
                        have H1 : (if (t185 == false) = true then ((ascii_Lower.f a0).bind fun t193 => ((ascii_Token.f kj11 t193).bind fun t194 => (some (t194 == true)))) else (some false)) = some r := by rw [if_neg (show ¬ (false = true) by decide)] at H; exact H
                        clear H
                        have H := H1
                        clear H1
                        by_cases c136 : (t185 == false) = true
                        · rw [if_pos c136] at H
                          have c136b0 : (t185 == false) = true := c136
                          (try (have c136b1 : decide (t185 = false) = true := by simpa using c136))
                          (try (have c136b2 : (t185 == false) = true := by simpa using c136))
                          clear c136
                          replace H := Option.bind_eq_some_iff.mp H
                          obtain ⟨t193, A1370, H⟩ := H
                          replace H : ((ascii_Token.f kj11 t193).bind fun t194 => (some (t194 == true))) = some r := H
                          have A137 := Aside0.mk A1370
                          clear A1370
                          replace H := Option.bind_eq_some_iff.mp H
                          obtain ⟨t194, A1380, H⟩ := H
                          replace H : (some (t194 == true)) = some r := H
                          have A138 := Aside0.mk A1380
                          clear A1380
                          obtain rfl := Option.some.inj H
                          go_wp2_with (first | ((with_reducible refine gate_dst (N := 26) rfl ?_); refine Kd.R_lit (Kd.int .u8) _ 5 ?hg (N := 26) ?hd (xs := ([a2] : List Int)) (inner := [.int .u8 a2]) (ok := fun _ => True) (okp := fun _ => True) ?hr ?hp (fun _ hk => hk) trivial (Below.refl _ _) (Nat.le_refl _) (by simp) ?_; (case hd => rfl); (case hg => rfl); (case hr => first | (go_simp; done) | (go_simp; rfl)); (case hp => exact (Reps.one (show Kd.M (Kd.int .u8) _ _ _ a2 [.int .u8 a2] from rfl) (Reps.none _ _))); intro v162 w139 ho140 hb hg_ hnew_; clear hg_ hnew_; (first | rw [← Ny161.out] at ho140 | (simp only [Int.reduceToNat] at ho140; rw [← Ny161.out] at ho140)); have n0_ := Aside0.mk (Kd.R_lower ho140 (below_size (by repeat (first | (with_reducible first | exact HB.out | apply below_alloc | apply pw_below_drewN | apply below_drew1) | exact HB.out)))); have n1_ := Aside0.mk (below_step (by repeat (first | (with_reducible first | exact HB.out | apply below_alloc | apply pw_below_drewN | apply below_drew1) | exact HB.out)) hb); clear HB; have HO163 := n0_; have HB := n1_; clear n0_ n1_; clear hb ho140; have hcv141 := own_string (P := Try.prog) Try.underlying24 Try.underlying5 Try.underlying9 (Kd.own_of_R HO163.out)) | (go_at_call 13; (with_reducible refine (ascii_Token.calls kj11 ((a0 ++ (strOfNums y161)) ++ a1) t185 _ A109.out).mono ?_); rintro e w' ⟨rfl, ⟨nd, rfl⟩⟩) | (go_at_call 13; (with_reducible refine (ascii_Token.calls kj11 a0 true _ A110.out).mono ?_); rintro e w' ⟨rfl, ⟨nd, rfl⟩⟩) | (go_at_call 13; (with_reducible refine (ascii_Token.calls kj11 (strOfNums y161) false _ A112.out).mono ?_); rintro e w' ⟨rfl, ⟨nd, rfl⟩⟩) | (go_at_call 17; (with_reducible refine (ascii_Lower.calls a0 t193 _ A137.out).mono ?_); rintro e w142 ⟨rfl, hb⟩; have n0_ := Aside0.mk (Kd.R_below (by (with_reducible repeat (first | apply Kd.R_alloc | apply Kd.R_drewN | apply Kd.R_drew)); exact HO163.out) hb); have n1_ := Aside0.mk (below_step (by repeat (first | (with_reducible first | exact HB.out | apply below_alloc | apply pw_below_drewN | apply below_drew1) | exact HB.out)) hb); clear HO163; clear HB; have HO163 := n0_; have HB := n1_; clear n0_ n1_; (try clear hb); (try clear hb2); (try clear hk); (try clear hi)) | (go_at_call 13; (with_reducible refine (ascii_Token.calls kj11 t193 t194 _ A138.out).mono ?_); rintro e w' ⟨rfl, ⟨nd, rfl⟩⟩))
                          go_ret
                          exact ⟨by first | rfl | (simp [errW_none, errW_some] <;> rfl) | (simp [*, errW_none, errW_some] <;> rfl), by repeat (first | (with_reducible first | exact HB.out | apply below_alloc | apply pw_below_drewN | apply below_drew1) | exact HB.out)⟩
                        · rw [if_neg c136] at H
                          have c136b0 : (t185 == false) = false := by simpa using c136
                          (try (have c136b1 : decide (t185 = false) = false := by simpa using c136))
                          (try (have c136b2 : (t185 == false) = false := by simpa using c136))
                          (try (have c136b3 : ¬ (t185 = false) := by simpa using c136))
                          clear c136
                          obtain rfl := Option.some.inj H
                          go_wp2_with (first | ((with_reducible refine gate_dst (N := 26) rfl ?_); refine Kd.R_lit (Kd.int .u8) _ 5 ?hg (N := 26) ?hd (xs := ([a2] : List Int)) (inner := [.int .u8 a2]) (ok := fun _ => True) (okp := fun _ => True) ?hr ?hp (fun _ hk => hk) trivial (Below.refl _ _) (Nat.le_refl _) (by simp) ?_; (case hd => rfl); (case hg => rfl); (case hr => first | (go_simp; done) | (go_simp; rfl)); (case hp => exact (Reps.one (show Kd.M (Kd.int .u8) _ _ _ a2 [.int .u8 a2] from rfl) (Reps.none _ _))); intro v162 w143 ho144 hb hg_ hnew_; clear hg_ hnew_; (first | rw [← Ny161.out] at ho144 | (simp only [Int.reduceToNat] at ho144; rw [← Ny161.out] at ho144)); have n0_ := Aside0.mk (Kd.R_lower ho144 (below_size (by repeat (first | (with_reducible first | exact HB.out | apply below_alloc | apply pw_below_drewN | apply below_drew1) | exact HB.out)))); have n1_ := Aside0.mk (below_step (by repeat (first | (with_reducible first | exact HB.out | apply below_alloc | apply pw_below_drewN | apply below_drew1) | exact HB.out)) hb); clear HB; have HO163 := n0_; have HB := n1_; clear n0_ n1_; clear hb ho144; have hcv145 := own_string (P := Try.prog) Try.underlying24 Try.underlying5 Try.underlying9 (Kd.own_of_R HO163.out)) | (go_at_call 13; (with_reducible refine (ascii_Token.calls kj11 ((a0 ++ (strOfNums y161)) ++ a1) t185 _ A109.out).mono ?_); rintro e w' ⟨rfl, ⟨nd, rfl⟩⟩) | (go_at_call 13; (with_reducible refine (ascii_Token.calls kj11 a0 true _ A110.out).mono ?_); rintro e w' ⟨rfl, ⟨nd, rfl⟩⟩) | (go_at_call 13; (with_reducible refine (ascii_Token.calls kj11 (strOfNums y161) false _ A112.out).mono ?_); rintro e w' ⟨rfl, ⟨nd, rfl⟩⟩))
                          go_ret
                          exact ⟨by first | rfl | (simp [errW_none, errW_some] <;> rfl) | (simp [*, errW_none, errW_some] <;> rfl), by repeat (first | (with_reducible first | exact HB.out | apply below_alloc | apply pw_below_drewN | apply below_drew1) | exact HB.out)⟩
                    · replace c111 := Bool.eq_false_iff.mpr c111
                      subst c111
                      have H1 : (if a0.toList = ([] : List UInt8) then ((ascii_Token.f kj11 (strOfNums y161)).bind fun t195 => (if t195 = true then ((ascii_Token.f kj11 a1).bind fun t196 => (if t196 = true then (if (t185 == true) = true then ((ascii_Lower.f a0).bind fun t197 => ((ascii_Token.f kj11 t197).bind fun t198 => (some (t198 == false)))) else (some false)) else (if (t185 == (a1.toList.isEmpty)) = true then ((ascii_Lower.f a0).bind fun t199 => ((ascii_Token.f kj11 t199).bind fun t200 => (some (t200 == false)))) else (some false)))) else (if (t185 == false) = true then ((ascii_Lower.f a0).bind fun t201 => ((ascii_Token.f kj11 t201).bind fun t202 => (some (t202 == false)))) else (some false)))) else (if (t185 == false) = true then ((ascii_Lower.f a0).bind fun t203 => ((ascii_Token.f kj11 t203).bind fun t204 => (some (t204 == false)))) else (some false))) = some r := by rw [if_neg (show ¬ (false = true) by decide)] at H; exact H
                      clear H
                      have H := H1
                      clear H1
                      by_cases c146 : a0.toList = ([] : List UInt8)
                      · rw [if_pos c146] at H
                        have c146b0 : (a0.toList == ([] : List UInt8)) = true := beq_iff_eq.mpr c146
                        have c146b1 : (a0.toList != ([] : List UInt8)) = false := bne_eq_false_iff_eq.mpr c146
                        clear c146
                        replace H := Option.bind_eq_some_iff.mp H
                        obtain ⟨t195, A1470, H⟩ := H
                        replace H : (if t195 = true then ((ascii_Token.f kj11 a1).bind fun t196 => (if t196 = true then (if (t185 == true) = true then ((ascii_Lower.f a0).bind fun t197 => ((ascii_Token.f kj11 t197).bind fun t198 => (some (t198 == false)))) else (some false)) else (if (t185 == (a1.toList.isEmpty)) = true then ((ascii_Lower.f a0).bind fun t199 => ((ascii_Token.f kj11 t199).bind fun t200 => (some (t200 == false)))) else (some false)))) else (if (t185 == false) = true then ((ascii_Lower.f a0).bind fun t201 => ((ascii_Token.f kj11 t201).bind fun t202 => (some (t202 == false)))) else (some false))) = some r := H
                        have A147 := Aside0.mk A1470
                        clear A1470
                        by_cases c148 : t195 = true
                        · subst c148
                          have H1 : ((ascii_Token.f kj11 a1).bind fun t196 => (if t196 = true then (if (t185 == true) = true then ((ascii_Lower.f a0).bind fun t197 => ((ascii_Token.f kj11 t197).bind fun t198 => (some (t198 == false)))) else (some false)) else (if (t185 == (a1.toList.isEmpty)) = true then ((ascii_Lower.f a0).bind fun t199 => ((ascii_Token.f kj11 t199).bind fun t200 => (some (t200 == false)))) else (some false)))) = some r := by rw [if_pos rfl] at H; exact H
                          clear H
                          have H := H1
                          clear H1
                          replace H := Option.bind_eq_some_iff.mp H
                          obtain ⟨t196, A1490, H⟩ := H
                          replace H : (if t196 = true then (if (t185 == true) = true then ((ascii_Lower.f a0).bind fun t197 => ((ascii_Token.f kj11 t197).bind fun t198 => (some (t198 == false)))) else (some false)) else (if (t185 == (a1.toList.isEmpty)) = true then ((ascii_Lower.f a0).bind fun t199 => ((ascii_Token.f kj11 t199).bind fun t200 => (some (t200 == false)))) else (some false))) = some r := H
                          have A149 := Aside0.mk A1490
                          clear A1490
                          by_cases c150 : t196 = true
                          · subst c150
                            have H1 : (if (t185 == true) = true then ((ascii_Lower.f a0).bind fun t197 => ((ascii_Token.f kj11 t197).bind fun t198 => (some (t198 == false)))) else (some false)) = some r := by rw [if_pos rfl] at H; exact H
                            clear H
                            have H := H1
                            clear H1
                            by_cases c151 : (t185 == true) = true
                            · rw [if_pos c151] at H
                              have c151b0 : (t185 == true) = true := c151
                              (try (have c151b1 : decide (t185 = true) = true := by simpa using c151))
                              (try (have c151b2 : (t185 == true) = true := by simpa using c151))
                              clear c151
                              replace H := Option.bind_eq_some_iff.mp H
                              obtain ⟨t197, A1520, H⟩ := H
                              replace H : ((ascii_Token.f kj11 t197).bind fun t198 => (some (t198 == false))) = some r := H
                              have A152 := Aside0.mk A1520
                              clear A1520
                              replace H := Option.bind_eq_some_iff.mp H
                              obtain ⟨t198, A1530, H⟩ := H
                              replace H : (some (t198 == false)) = some r := H
                              have A153 := Aside0.mk A1530
                              clear A1530
                              obtain rfl := Option.some.inj H
                              go_wp2_with (first | ((with_reducible refine gate_dst (N := 26) rfl ?_); refine Kd.R_lit (Kd.int .u8) _ 5 ?hg (N := 26) ?hd (xs := ([a2] : List Int)) (inner := [.int .u8 a2]) (ok := fun _ => True) (okp := fun _ => True) ?hr ?hp (fun _ hk => hk) trivial (Below.refl _ _) (Nat.le_refl _) (by simp) ?_; (case hd => rfl); (case hg => rfl); (case hr => first | (go_simp; done) | (go_simp; rfl)); (case hp => exact (Reps.one (show Kd.M (Kd.int .u8) _ _ _ a2 [.int .u8 a2] from rfl) (Reps.none _ _))); intro v162 w154 ho155 hb hg_ hnew_; clear hg_ hnew_; (first | rw [← Ny161.out] at ho155 | (simp only [Int.reduceToNat] at ho155; rw [← Ny161.out] at ho155)); have n0_ := Aside0.mk (Kd.R_lower ho155 (below_size (by repeat (first | (with_reducible first | exact HB.out | apply below_alloc | apply pw_below_drewN | apply below_drew1) | exact HB.out)))); have n1_ := Aside0.mk (below_step (by repeat (first | (with_reducible first | exact HB.out | apply below_alloc | apply pw_below_drewN | apply below_drew1) | exact HB.out)) hb); clear HB; have HO163 := n0_; have HB := n1_; clear n0_ n1_; clear hb ho155; have hcv156 := own_string (P := Try.prog) Try.underlying24 Try.underlying5 Try.underlying9 (Kd.own_of_R HO163.out)) | (go_at_call 13; (with_reducible refine (ascii_Token.calls kj11 ((a0 ++ (strOfNums y161)) ++ a1) t185 _ A109.out).mono ?_); rintro e w' ⟨rfl, ⟨nd, rfl⟩⟩) | (go_at_call 13; (with_reducible refine (ascii_Token.calls kj11 a0 false _ A110.out).mono ?_); rintro e w' ⟨rfl, ⟨nd, rfl⟩⟩) | (go_at_call 13; (with_reducible refine (ascii_Token.calls kj11 (strOfNums y161) true _ A147.out).mono ?_); rintro e w' ⟨rfl, ⟨nd, rfl⟩⟩) | (go_at_call 13; (with_reducible refine (ascii_Token.calls kj11 a1 true _ A149.out).mono ?_); rintro e w' ⟨rfl, ⟨nd, rfl⟩⟩) | (go_at_call 17; (with_reducible refine (ascii_Lower.calls a0 t197 _ A152.out).mono ?_); rintro e w157 ⟨rfl, hb⟩; have n0_ := Aside0.mk (Kd.R_below (by (with_reducible repeat (first | apply Kd.R_alloc | apply Kd.R_drewN | apply Kd.R_drew)); exact HO163.out) hb); have n1_ := Aside0.mk (below_step (by repeat (first | (with_reducible first | exact HB.out | apply below_alloc | apply pw_below_drewN | apply below_drew1) | exact HB.out)) hb); clear HO163; clear HB; have HO163 := n0_; have HB := n1_; clear n0_ n1_; (try clear hb); (try clear hb2); (try clear hk); (try clear hi)) | (go_at_call 13; (with_reducible refine (ascii_Token.calls kj11 t197 t198 _ A153.out).mono ?_); rintro e w' ⟨rfl, ⟨nd, rfl⟩⟩))
                              go_ret
                              exact ⟨by first | rfl | (simp [errW_none, errW_some] <;> rfl) | (simp [*, errW_none, errW_some] <;> rfl), by repeat (first | (with_reducible first | exact HB.out | apply below_alloc | apply pw_below_drewN | apply below_drew1) | exact HB.out)⟩
                            · rw [if_neg c151] at H
                              have c151b0 : (t185 == true) = false := by simpa using c151
                              (try (have c151b1 : decide (t185 = true) = false := by simpa using c151))
                              (try (have c151b2 : (t185 == true) = false := by simpa using c151))
                              (try (have c151b3 : ¬ (t185 = true) := by simpa using c151))
                              clear c151
                              obtain rfl := Option.some.inj H
                              go_wp2_with (first | ((with_reducible refine gate_dst (N := 26) rfl ?_); refine Kd.R_lit (Kd.int .u8) _ 5 ?hg (N := 26) ?hd (xs := ([a2] : List Int)) (inner := [.int .u8 a2]) (ok := fun _ => True) (okp := fun _ => True) ?hr ?hp (fun _ hk => hk) trivial (Below.refl _ _) (Nat.le_refl _) (by simp) ?_; (case hd => rfl); (case hg => rfl); (case hr => first | (go_simp; done) | (go_simp; rfl)); (case hp => exact (Reps.one (show Kd.M (Kd.int .u8) _ _ _ a2 [.int .u8 a2] from rfl) (Reps.none _ _))); intro v162 w158 ho159 hb hg_ hnew_; clear hg_ hnew_; (first | rw [← Ny161.out] at ho159 | (simp only [Int.reduceToNat] at ho159; rw [← Ny161.out] at ho159)); have n0_ := Aside0.mk (Kd.R_lower ho159 (below_size (by repeat (first | (with_reducible first | exact HB.out | apply below_alloc | apply pw_below_drewN | apply below_drew1) | exact HB.out)))); have n1_ := Aside0.mk (below_step (by repeat (first | (with_reducible first | exact HB.out | apply below_alloc | apply pw_below_drewN | apply below_drew1) | exact HB.out)) hb); clear HB; have HO163 := n0_; have HB := n1_; clear n0_ n1_; clear hb ho159; have hcv160 := own_string (P := Try.prog) Try.underlying24 Try.underlying5 Try.underlying9 (Kd.own_of_R HO163.out)) | (go_at_call 13; (with_reducible refine (ascii_Token.calls kj11 ((a0 ++ (strOfNums y161)) ++ a1) t185 _ A109.out).mono ?_); rintro e w' ⟨rfl, ⟨nd, rfl⟩⟩) | (go_at_call 13; (with_reducible refine (ascii_Token.calls kj11 a0 false _ A110.out).mono ?_); rintro e w' ⟨rfl, ⟨nd, rfl⟩⟩) | (go_at_call 13; (with_reducible refine (ascii_Token.calls kj11 (strOfNums y161) true _ A147.out).mono ?_); rintro e w' ⟨rfl, ⟨nd, rfl⟩⟩) | (go_at_call 13; (with_reducible refine (ascii_Token.calls kj11 a1 true _ A149.out).mono ?_); rintro e w' ⟨rfl, ⟨nd, rfl⟩⟩))
                              go_ret
                              exact ⟨by first | rfl | (simp [errW_none, errW_some] <;> rfl) | (simp [*, errW_none, errW_some] <;> rfl), by repeat (first | (with_reducible first | exact HB.out | apply below_alloc | apply pw_below_drewN | apply below_drew1) | exact HB.out)⟩
                          · replace c150 := Bool.eq_false_iff.mpr c150
                            subst c150
                            have H1 : (if (t185 == (a1.toList.isEmpty)) = true then ((ascii_Lower.f a0).bind fun t199 => ((ascii_Token.f kj11 t199).bind fun t200 => (some (t200 == false)))) else (some false)) = some r := by rw [if_neg (show ¬ (false = true) by decide)] at H; exact H
                            clear H
                            have H := H1
                            clear H1
                            by_cases c161 : (t185 == (a1.toList.isEmpty)) = true
                            · rw [if_pos c161] at H
                              have c161b0 : (t185 == (a1.toList.isEmpty)) = true := c161
                              (try (have c161b1 : decide (t185 = (a1.toList.isEmpty)) = true := by simpa using c161))
                              (try (have c161b2 : (t185 == (a1.toList.isEmpty)) = true := by simpa using c161))
                              clear c161
                              replace H := Option.bind_eq_some_iff.mp H
                              obtain ⟨t199, A1620, H⟩ := H
                              replace H : ((ascii_Token.f kj11 t199).bind fun t200 => (some (t200 == false))) = some r := H
                              have A162 := Aside0.mk A1620
                              clear A1620
                              replace H := Option.bind_eq_some_iff.mp H
                              obtain ⟨t200, A1630, H⟩ := H
                              replace H : (some (t200 == false)) = some r := H
                              have A163 := Aside0.mk A1630
                              clear A1630
                              obtain rfl := Option.some.inj H
                              go_wp2_with (first | ((with_reducible refine gate_dst (N := 26) rfl ?_); refine Kd.R_lit (Kd.int .u8) _ 5 ?hg (N := 26) ?hd (xs := ([a2] : List Int)) (inner := [.int .u8 a2]) (ok := fun _ => True) (okp := fun _ => True) ?hr ?hp (fun _ hk => hk) trivial (Below.refl _ _) (Nat.le_refl _) (by simp) ?_; (case hd => rfl); (case hg => rfl); (case hr => first | (go_simp; done) | (go_simp; rfl)); (case hp => exact (Reps.one (show Kd.M (Kd.int .u8) _ _ _ a2 [.int .u8 a2] from rfl) (Reps.none _ _))); intro v162 w164 ho165 hb hg_ hnew_; clear hg_ hnew_; (first | rw [← Ny161.out] at ho165 | (simp only [Int.reduceToNat] at ho165; rw [← Ny161.out] at ho165)); have n0_ := Aside0.mk (Kd.R_lower ho165 (below_size (by repeat (first | (with_reducible first | exact HB.out | apply below_alloc | apply pw_below_drewN | apply below_drew1) | exact HB.out)))); have n1_ := Aside0.mk (below_step (by repeat (first | (with_reducible first | exact HB.out | apply below_alloc | apply pw_below_drewN | apply below_drew1) | exact HB.out)) hb); clear HB; have HO163 := n0_; have HB := n1_; clear n0_ n1_; clear hb ho165; have hcv166 := own_string (P := Try.prog) Try.underlying24 Try.underlying5 Try.underlying9 (Kd.own_of_R HO163.out)) | (go_at_call 13; (with_reducible refine (ascii_Token.calls kj11 ((a0 ++ (strOfNums y161)) ++ a1) t185 _ A109.out).mono ?_); rintro e w' ⟨rfl, ⟨nd, rfl⟩⟩) | (go_at_call 13; (with_reducible refine (ascii_Token.calls kj11 a0 false _ A110.out).mono ?_); rintro e w' ⟨rfl, ⟨nd, rfl⟩⟩) | (go_at_call 13; (with_reducible refine (ascii_Token.calls kj11 (strOfNums y161) true _ A147.out).mono ?_); rintro e w' ⟨rfl, ⟨nd, rfl⟩⟩) | (go_at_call 13; (with_reducible refine (ascii_Token.calls kj11 a1 false _ A149.out).mono ?_); rintro e w' ⟨rfl, ⟨nd, rfl⟩⟩) | (go_at_call 17; (with_reducible refine (ascii_Lower.calls a0 t199 _ A162.out).mono ?_); rintro e w167 ⟨rfl, hb⟩; have n0_ := Aside0.mk (Kd.R_below (by (with_reducible repeat (first | apply Kd.R_alloc | apply Kd.R_drewN | apply Kd.R_drew)); exact HO163.out) hb); have n1_ := Aside0.mk (below_step (by repeat (first | (with_reducible first | exact HB.out | apply below_alloc | apply pw_below_drewN | apply below_drew1) | exact HB.out)) hb); clear HO163; clear HB; have HO163 := n0_; have HB := n1_; clear n0_ n1_; (try clear hb); (try clear hb2); (try clear hk); (try clear hi)) | (go_at_call 13; (with_reducible refine (ascii_Token.calls kj11 t199 t200 _ A163.out).mono ?_); rintro e w' ⟨rfl, ⟨nd, rfl⟩⟩))
                              go_ret
                              exact ⟨by first | rfl | (simp [errW_none, errW_some] <;> rfl) | (simp [*, errW_none, errW_some] <;> rfl), by repeat (first | (with_reducible first | exact HB.out | apply below_alloc | apply pw_below_drewN | apply below_drew1) | exact HB.out)⟩
                            · rw [if_neg c161] at H
                              have c161b0 : (t185 == (a1.toList.isEmpty)) = false := by simpa using c161
                              (try (have c161b1 : decide (t185 = (a1.toList.isEmpty)) = false := by simpa using c161))
                              (try (have c161b2 : (t185 == (a1.toList.isEmpty)) = false := by simpa using c161))
                              (try (have c161b3 : ¬ (t185 = (a1.toList.isEmpty)) := by simpa using c161))
                              clear c161
                              obtain rfl := Option.some.inj H
                              go_wp2_with (first | ((with_reducible refine gate_dst (N := 26) rfl ?_); refine Kd.R_lit (Kd.int .u8) _ 5 ?hg (N := 26) ?hd (xs := ([a2] : List Int)) (inner := [.int .u8 a2]) (ok := fun _ => True) (okp := fun _ => True) ?hr ?hp (fun _ hk => hk) trivial (Below.refl _ _) (Nat.le_refl _) (by simp) ?_; (case hd => rfl); (case hg => rfl); (case hr => first | (go_simp; done) | (go_simp; rfl)); (case hp => exact (Reps.one (show Kd.M (Kd.int .u8) _ _ _ a2 [.int .u8 a2] from rfl) (Reps.none _ _))); intro v162 w168 ho169 hb hg_ hnew_; clear hg_ hnew_; (first | rw [← Ny161.out] at ho169 | (simp only [Int.reduceToNat] at ho169; rw [← Ny161.out] at ho169)); have n0_ := Aside0.mk (Kd.R_lower ho169 (below_size (by repeat (first | (with_reducible first | exact HB.out | apply below_alloc | apply pw_below_drewN | apply below_drew1) | exact HB.out)))); have n1_ := Aside0.mk (below_step (by repeat (first | (with_reducible first | exact HB.out | apply below_alloc | apply pw_below_drewN | apply below_drew1) | exact HB.out)) hb); clear HB; have HO163 := n0_; have HB := n1_; clear n0_ n1_; clear hb ho169; have hcv170 := own_string (P := Try.prog) Try.underlying24 Try.underlying5 Try.underlying9 (Kd.own_of_R HO163.out)) | (go_at_call 13; (with_reducible refine (ascii_Token.calls kj11 ((a0 ++ (strOfNums y161)) ++ a1) t185 _ A109.out).mono ?_); rintro e w' ⟨rfl, ⟨nd, rfl⟩⟩) | (go_at_call 13; (with_reducible refine (ascii_Token.calls kj11 a0 false _ A110.out).mono ?_); rintro e w' ⟨rfl, ⟨nd, rfl⟩⟩) | (go_at_call 13; (with_reducible refine (ascii_Token.calls kj11 (strOfNums y161) true _ A147.out).mono ?_); rintro e w' ⟨rfl, ⟨nd, rfl⟩⟩) | (go_at_call 13; (with_reducible refine (ascii_Token.calls kj11 a1 false _ A149.out).mono ?_); rintro e w' ⟨rfl, ⟨nd, rfl⟩⟩))
                              go_ret
                              exact ⟨by first | rfl | (simp [errW_none, errW_some] <;> rfl) | (simp [*, errW_none, errW_some] <;> rfl), by repeat (first | (with_reducible first | exact HB.out | apply below_alloc | apply pw_below_drewN | apply below_drew1) | exact HB.out)⟩
                        · replace c148 := Bool.eq_false_iff.mpr c148
                          subst c148
                          have H1 : (if (t185 == false) = true then ((ascii_Lower.f a0).bind fun t201 => ((ascii_Token.f kj11 t201).bind fun t202 => (some (t202 == false)))) else (some false)) = some r := by rw [if_neg (show ¬ (false = true) by decide)] at H; exact H
                          clear H
                          have H := H1
                          clear H1
                          by_cases c171 : (t185 == false) = true
                          · rw [if_pos c171] at H
                            have c171b0 : (t185 == false) = true := c171
                            (try (have c171b1 : decide (t185 = false) = true := by simpa using c171))
                            (try (have c171b2 : (t185 == false) = true := by simpa using c171))
                            clear c171
                            replace H := Option.bind_eq_some_iff.mp H
                            obtain ⟨t201, A1720, H⟩ := H
                            replace H : ((ascii_Token.f kj11 t201).bind fun t202 => (some (t202 == false))) = some r := H
                            have A172 := Aside0.mk A1720
                            clear A1720
                            replace H := Option.bind_eq_some_iff.mp H
                            obtain ⟨t202, A1730, H⟩ := H
                            replace H : (some (t202 == false)) = some r := H
                            have A173 := Aside0.mk A1730
                            clear A1730
                            obtain rfl := Option.some.inj H
                            go_wp2_with (first | ((with_reducible refine gate_dst (N := 26) rfl ?_); refine Kd.R_lit (Kd.int .u8) _ 5 ?hg (N := 26) ?hd (xs := ([a2] : List Int)) (inner := [.int .u8 a2]) (ok := fun _ => True) (okp := fun _ => True) ?hr ?hp (fun _ hk => hk) trivial (Below.refl _ _) (Nat.le_refl _) (by simp) ?_; (case hd => rfl); (case hg => rfl); (case hr => first | (go_simp; done) | (go_simp; rfl)); (case hp => exact (Reps.one (show Kd.M (Kd.int .u8) _ _ _ a2 [.int .u8 a2] from rfl) (Reps.none _ _))); intro v162 w174 ho175 hb hg_ hnew_; clear hg_ hnew_; (first | rw [← Ny161.out] at ho175 | (simp only [Int.reduceToNat] at ho175; rw [← Ny161.out] at ho175)); have n0_ := Aside0.mk (Kd.R_lower ho175 (below_size (by repeat (first | (with_reducible first | exact HB.out | apply below_alloc | apply pw_below_drewN | apply below_drew1) | exact HB.out)))); have n1_ := Aside0.mk (below_step (by repeat (first | (with_reducible first | exact HB.out | apply below_alloc | apply pw_below_drewN | apply below_drew1) | exact HB.out)) hb); clear HB; have HO163 := n0_; have HB := n1_; clear n0_ n1_; clear hb ho175; have hcv176 := own_string (P := Try.prog) Try.underlying24 Try.underlying5 Try.underlying9 (Kd.own_of_R HO163.out)) | (go_at_call 13; (with_reducible refine (ascii_Token.calls kj11 ((a0 ++ (strOfNums y161)) ++ a1) t185 _ A109.out).mono ?_); rintro e w' ⟨rfl, ⟨nd, rfl⟩⟩) | (go_at_call 13; (with_reducible refine (ascii_Token.calls kj11 a0 false _ A110.out).mono ?_); rintro e w' ⟨rfl, ⟨nd, rfl⟩⟩) | (go_at_call 13; (with_reducible refine (ascii_Token.calls kj11 (strOfNums y161) false _ A147.out).mono ?_); rintro e w' ⟨rfl, ⟨nd, rfl⟩⟩) | (go_at_call 17; (with_reducible refine (ascii_Lower.calls a0 t201 _ A172.out).mono ?_); rintro e w177 ⟨rfl, hb⟩; have n0_ := Aside0.mk (Kd.R_below (by (with_reducible repeat (first | apply Kd.R_alloc | apply Kd.R_drewN | apply Kd.R_drew)); exact HO163.out) hb); have n1_ := Aside0.mk (below_step (by repeat (first | (with_reducible first | exact HB.out | apply below_alloc | apply pw_below_drewN | apply below_drew1) | exact HB.out)) hb); clear HO163; clear HB; have HO163 := n0_; have HB := n1_; clear n0_ n1_; (try clear hb); (try clear hb2); (try clear hk); (try clear hi)) | (go_at_call 13; (with_reducible refine (ascii_Token.calls kj11 t201 t202 _ A173.out).mono ?_); rintro e w' ⟨rfl, ⟨nd, rfl⟩⟩))
                            go_ret
                            exact ⟨by first | rfl | (simp [errW_none, errW_some] <;> rfl) | (simp [*, errW_none, errW_some] <;> rfl), by repeat (first | (with_reducible first | exact HB.out | apply below_alloc | apply pw_below_drewN | apply below_drew1) | exact HB.out)⟩
                          · rw [if_neg c171] at H
                            have c171b0 : (t185 == false) = false := by simpa using c171
                            (try (have c171b1 : decide (t185 = false) = false := by simpa using c171))
                            (try (have c171b2 : (t185 == false) = false := by simpa using c171))
                            (try (have c171b3 : ¬ (t185 = false) := by simpa using c171))
                            clear c171
                            obtain rfl := Option.some.inj H
                            go_wp2_with (first | ((with_reducible refine gate_dst (N := 26) rfl ?_); refine Kd.R_lit (Kd.int .u8) _ 5 ?hg (N := 26) ?hd (xs := ([a2] : List Int)) (inner := [.int .u8 a2]) (ok := fun _ => True) (okp := fun _ => True) ?hr ?hp (fun _ hk => hk) trivial (Below.refl _ _) (Nat.le_refl _) (by simp) ?_; (case hd => rfl); (case hg => rfl); (case hr => first | (go_simp; done) | (go_simp; rfl)); (case hp => exact (Reps.one (show Kd.M (Kd.int .u8) _ _ _ a2 [.int .u8 a2] from rfl) (Reps.none _ _))); intro v162 w178 ho179 hb hg_ hnew_; clear hg_ hnew_; (first | rw [← Ny161.out] at ho179 | (simp only [Int.reduceToNat] at ho179; rw [← Ny161.out] at ho179)); have n0_ := Aside0.mk (Kd.R_lower ho179 (below_size (by repeat (first | (with_reducible first | exact HB.out | apply below_alloc | apply pw_below_drewN | apply below_drew1) | exact HB.out)))); have n1_ := Aside0.mk (below_step (by repeat (first | (with_reducible first | exact HB.out | apply below_alloc | apply pw_below_drewN | apply below_drew1) | exact HB.out)) hb); clear HB; have HO163 := n0_; have HB := n1_; clear n0_ n1_; clear hb ho179; have hcv180 := own_string (P := Try.prog) Try.underlying24 Try.underlying5 Try.underlying9 (Kd.own_of_R HO163.out)) | (go_at_call 13; (with_reducible refine (ascii_Token.calls kj11 ((a0 ++ (strOfNums y161)) ++ a1) t185 _ A109.out).mono ?_); rintro e w' ⟨rfl, ⟨nd, rfl⟩⟩) | (go_at_call 13; (with_reducible refine (ascii_Token.calls kj11 a0 false _ A110.out).mono ?_); rintro e w' ⟨rfl, ⟨nd, rfl⟩⟩) | (go_at_call 13; (with_reducible refine (ascii_Token.calls kj11 (strOfNums y161) false _ A147.out).mono ?_); rintro e w' ⟨rfl, ⟨nd, rfl⟩⟩))
                            go_ret
                            exact ⟨by first | rfl | (simp [errW_none, errW_some] <;> rfl) | (simp [*, errW_none, errW_some] <;> rfl), by repeat (first | (with_reducible first | exact HB.out | apply below_alloc | apply pw_below_drewN | apply below_drew1) | exact HB.out)⟩
                      · rw [if_neg c146] at H
                        have c146b0 : (a0.toList == ([] : List UInt8)) = false := beq_eq_false_iff_ne.mpr c146
                        have c146b1 : (a0.toList != ([] : List UInt8)) = true := bne_iff_ne.mpr c146
                        by_cases c181 : (t185 == false) = true
                        · rw [if_pos c181] at H
                          have c181b0 : (t185 == false) = true := c181
                          (try (have c181b1 : decide (t185 = false) = true := by simpa using c181))
                          (try (have c181b2 : (t185 == false) = true := by simpa using c181))
                          clear c181
                          replace H := Option.bind_eq_some_iff.mp H
                          obtain ⟨t203, A1820, H⟩ := H
                          replace H : ((ascii_Token.f kj11 t203).bind fun t204 => (some (t204 == false))) = some r := H
                          have A182 := Aside0.mk A1820
                          clear A1820
                          replace H := Option.bind_eq_some_iff.mp H
                          obtain ⟨t204, A1830, H⟩ := H
                          replace H : (some (t204 == false)) = some r := H
                          have A183 := Aside0.mk A1830
                          clear A1830
                          obtain rfl := Option.some.inj H
                          go_wp2_with (first | ((with_reducible refine gate_dst (N := 26) rfl ?_); refine Kd.R_lit (Kd.int .u8) _ 5 ?hg (N := 26) ?hd (xs := ([a2] : List Int)) (inner := [.int .u8 a2]) (ok := fun _ => True) (okp := fun _ => True) ?hr ?hp (fun _ hk => hk) trivial (Below.refl _ _) (Nat.le_refl _) (by simp) ?_; (case hd => rfl); (case hg => rfl); (case hr => first | (go_simp; done) | (go_simp; rfl)); (case hp => exact (Reps.one (show Kd.M (Kd.int .u8) _ _ _ a2 [.int .u8 a2] from rfl) (Reps.none _ _))); intro v162 w184 ho185 hb hg_ hnew_; clear hg_ hnew_; (first | rw [← Ny161.out] at ho185 | (simp only [Int.reduceToNat] at ho185; rw [← Ny161.out] at ho185)); have n0_ := Aside0.mk (Kd.R_lower ho185 (below_size (by repeat (first | (with_reducible first | exact HB.out | apply below_alloc | apply pw_below_drewN | apply below_drew1) | exact HB.out)))); have n1_ := Aside0.mk (below_step (by repeat (first | (with_reducible first | exact HB.out | apply below_alloc | apply pw_below_drewN | apply below_drew1) | exact HB.out)) hb); clear HB; have HO163 := n0_; have HB := n1_; clear n0_ n1_; clear hb ho185; have hcv186 := own_string (P := Try.prog) Try.underlying24 Try.underlying5 Try.underlying9 (Kd.own_of_R HO163.out)) | (go_at_call 13; (with_reducible refine (ascii_Token.calls kj11 ((a0 ++ (strOfNums y161)) ++ a1) t185 _ A109.out).mono ?_); rintro e w' ⟨rfl, ⟨nd, rfl⟩⟩) | (go_at_call 13; (with_reducible refine (ascii_Token.calls kj11 a0 false _ A110.out).mono ?_); rintro e w' ⟨rfl, ⟨nd, rfl⟩⟩) | (go_at_call 17; (with_reducible refine (ascii_Lower.calls a0 t203 _ A182.out).mono ?_); rintro e w187 ⟨rfl, hb⟩; have n0_ := Aside0.mk (Kd.R_below (by (with_reducible repeat (first | apply Kd.R_alloc | apply Kd.R_drewN | apply Kd.R_drew)); exact HO163.out) hb); have n1_ := Aside0.mk (below_step (by repeat (first | (with_reducible first | exact HB.out | apply below_alloc | apply pw_below_drewN | apply below_drew1) | exact HB.out)) hb); clear HO163; clear HB; have HO163 := n0_; have HB := n1_; clear n0_ n1_; (try clear hb); (try clear hb2); (try clear hk); (try clear hi)) | (go_at_call 13; (with_reducible refine (ascii_Token.calls kj11 t203 t204 _ A183.out).mono ?_); rintro e w' ⟨rfl, ⟨nd, rfl⟩⟩))
                          go_ret
                          exact ⟨by first | rfl | (simp [errW_none, errW_some] <;> rfl) | (simp [*, errW_none, errW_some] <;> rfl), by repeat (first | (with_reducible first | exact HB.out | apply below_alloc | apply pw_below_drewN | apply below_drew1) | exact HB.out)⟩
                        · rw [if_neg c181] at H
                          have c181b0 : (t185 == false) = false := by simpa using c181
                          (try (have c181b1 : decide (t185 = false) = false := by simpa using c181))
                          (try (have c181b2 : (t185 == false) = false := by simpa using c181))
                          (try (have c181b3 : ¬ (t185 = false) := by simpa using c181))
                          clear c181
                          obtain rfl := Option.some.inj H
                          go_wp2_with (first | ((with_reducible refine gate_dst (N := 26) rfl ?_); refine Kd.R_lit (Kd.int .u8) _ 5 ?hg (N := 26) ?hd (xs := ([a2] : List Int)) (inner := [.int .u8 a2]) (ok := fun _ => True) (okp := fun _ => True) ?hr ?hp (fun _ hk => hk) trivial (Below.refl _ _) (Nat.le_refl _) (by simp) ?_; (case hd => rfl); (case hg => rfl); (case hr => first | (go_simp; done) | (go_simp; rfl)); (case hp => exact (Reps.one (show Kd.M (Kd.int .u8) _ _ _ a2 [.int .u8 a2] from rfl) (Reps.none _ _))); intro v162 w188 ho189 hb hg_ hnew_; clear hg_ hnew_; (first | rw [← Ny161.out] at ho189 | (simp only [Int.reduceToNat] at ho189; rw [← Ny161.out] at ho189)); have n0_ := Aside0.mk (Kd.R_lower ho189 (below_size (by repeat (first | (with_reducible first | exact HB.out | apply below_alloc | apply pw_below_drewN | apply below_drew1) | exact HB.out)))); have n1_ := Aside0.mk (below_step (by repeat (first | (with_reducible first | exact HB.out | apply below_alloc | apply pw_below_drewN | apply below_drew1) | exact HB.out)) hb); clear HB; have HO163 := n0_; have HB := n1_; clear n0_ n1_; clear hb ho189; have hcv190 := own_string (P := Try.prog) Try.underlying24 Try.underlying5 Try.underlying9 (Kd.own_of_R HO163.out)) | (go_at_call 13; (with_reducible refine (ascii_Token.calls kj11 ((a0 ++ (strOfNums y161)) ++ a1) t185 _ A109.out).mono ?_); rintro e w' ⟨rfl, ⟨nd, rfl⟩⟩) | (go_at_call 13; (with_reducible refine (ascii_Token.calls kj11 a0 false _ A110.out).mono ?_); rintro e w' ⟨rfl, ⟨nd, rfl⟩⟩))
                          go_ret
                          exact ⟨by first | rfl | (simp [errW_none, errW_some] <;> rfl) | (simp [*, errW_none, errW_some] <;> rfl), by repeat (first | (with_reducible first | exact HB.out | apply below_alloc | apply pw_below_drewN | apply below_drew1) | exact HB.out)⟩
                  · rw [if_neg c108] at H
                    exact absurd H (by simp)
                · rw [if_neg c107] at H
                  exact absurd H (by simp)
  · replace c5 := Bool.eq_false_iff.mpr c5
    subst c5
    have H1 : (some false) = some r := by rw [if_neg (show ¬ (false = true) by decide)] at H; exact H
    clear H
    have H := H1
    clear H1
    obtain rfl := Option.some.inj H
    go_enter Try.func8, Try.ntmps8
    go_wp2_with (first | ((with_reducible refine gate_callee (f := 11) rfl ?_); refine goesL_ (some 9) rfl rfl Try.func11 (by kernel_rfl) rfl #[] rfl (by (try simp only [List.map_toArray, List.map_cons, List.map_nil]); first | done | rfl | (simp only [List.length_drop, List.length_take]; rfl)) ?_; (with_reducible refine (crossroadlaw01_fit.calls k  false _ A4.out).mono ?_); rintro e w191 ⟨rfl, hb⟩; refine ⟨_, rfl, ?_⟩; have n0_ := Aside0.mk (below_step (by repeat (first | (with_reducible first | exact HB.out | apply below_alloc | apply pw_below_drewN | apply below_drew1) | exact HB.out)) hb); clear HB; have HB := n0_; clear n0_; (try clear hb); (try clear hb2); (try clear hk); (try clear hi)))
    go_ret
    exact ⟨by first | rfl | (simp [errW_none, errW_some] <;> rfl) | (simp [*, errW_none, errW_some] <;> rfl), by repeat (first | (with_reducible first | exact HB.out | apply below_alloc | apply pw_below_drewN | apply below_drew1) | exact HB.out)⟩

/-- THE ONE PURE STATEMENT of crossroadlaw01_AsciiJoins: yours. -/
def crossroadlaw01_AsciiJoins.Pure : Prop := ∀ (a0 : ByteArray) (a1 : ByteArray) (a2 : Int), a0.size ≤ 140737488351232 → a1.size ≤ 140737488351232 → (Lit.int .u8 a2).wf = true → ∃ k, crossroadlaw01_AsciiJoins.f k a0 a1 a2 = some true
theorem crossroadlaw01_AsciiJoins.walk (P : crossroadlaw01_AsciiJoins.Pure) (a0 : ByteArray) (a1 : ByteArray) (a2 : Int) (w : World) (w0 : a0.size ≤ 140737488351232) (w1 : a1.size ≤ 140737488351232) (w2 : (Lit.int .u8 a2).wf = true) :
    Calls Try.prog 8 #[.string a0, .string a1, .int .u8 a2] w fun e w' => e = .returned (.bool true) ∧ Below w.heap.size w w' := by
  obtain ⟨k, h⟩ := P a0 a1 a2 w0 w1 w2
  refine (crossroadlaw01_AsciiJoins.calls k a0 a1 a2 true w h).mono ?_
  rintro e w' ⟨rfl, hd⟩
  exact ⟨rfl, hd⟩

end Go.Proofs.Ytlkknhojfhbopaa.X

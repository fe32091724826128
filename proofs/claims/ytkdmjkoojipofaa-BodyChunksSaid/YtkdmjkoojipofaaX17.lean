-- Written for this claim by a program of this session (wip/xprint.py). Not trusted: Lean checks it.
import Derived.Test.YtkdmjkoojipofaaX0
import Derived.Test.YtkdmjkoojipofaaX1
import Derived.Test.YtkdmjkoojipofaaX8
import Derived.Test.YtkdmjkoojipofaaX9
import Derived.Test.YtkdmjkoojipofaaX16
namespace Go.Proofs.Ytkdmjkoojipofaa.X
open Go.RowKit Go.Proofs.YtkdmjkoojipofaaW.PrintWords Go.Proofs.YtkdmjkoojipofaaW.PrintLast Go.Proofs.YtkdmjkoojipofaaW.PrintMore
attribute [local go_sem] max2_int min2_int max_two min_two max_three min_three max_four min_four   -- for this text's walks alone
set_option linter.unusedVariables false
set_option linter.unusedSimpArgs false

/-! ### crossroadlaw03_BodyChunks: function 7 -/
def crossroadlaw03_BodyChunks.j0 : Nat → ByteArray → Int → ByteArray → Bool → Option (Bool)
  | 0, _, _, _, _ => none
  | k + 1, x0, x1, x2, x19 => if x19 = true then (some true) else ((body_Chunks.f k x0 (wrap64 ((Go.bits .and .i64 x1 63) + 1))).bind fun t160 => (if t160.size + x2.size ≤ 9223372036854775807 then ((crossroadlaw03_Feed.f k (-1) (t160 ++ x2)).bind fun bt161 => (if (x0.size : Int) > 600 then ((body_Body_Status.f bt161.1).bind fun t163 => (some (t163 == 413))) else ((body_Body_Done.f bt161.1).bind fun t164 => (if t164 = true then ((body_Body_Status.f bt161.1).bind fun t165 => (if t165 = 0 then ((body_Body_Data.f bt161.1).bind fun t166 => (if t166.toList = x0.toList then (if bt161.2 = (t160.size : Int) then ((body_Chunks.f k x0 (wrap64 (-(wrap64 ((Go.bits .and .i64 x1 63) + 1))))).bind fun t167 => ((body_Chunks.f k x0 1).bind fun t168 => (some (t167.toList == t168.toList)))) else (some false)) else (some false))) else (some false))) else (some false))))) else (none)))
def crossroadlaw03_BodyChunks.f (k : Nat) (a0 : ByteArray) (a1 : Int) (a2 : ByteArray) : Option (Bool) := (crossroadlaw03_fit.f k).bind fun t159 => (if t159 = true then (if (a0.size : Int) > 1500 then (crossroadlaw03_BodyChunks.j0 k a0 a1 a2 true) else (crossroadlaw03_BodyChunks.j0 k a0 a1 a2 (decide ((a2.size : Int) > 500)))) else (some false))
theorem crossroadlaw03_BodyChunks.mono_l : ∀ k, (∀ y0 y1 y2 y3, LeO (crossroadlaw03_BodyChunks.j0 k y0 y1 y2 y3) (crossroadlaw03_BodyChunks.j0 (k + 1) y0 y1 y2 y3))
  | 0 => fun _ _ _ _ r h => by simp [crossroadlaw03_BodyChunks.j0] at h
  | k + 1 => by
    have ih0 := crossroadlaw03_BodyChunks.mono_l k
    · intro y0 y1 y2 y3
      unfold crossroadlaw03_BodyChunks.j0
      repeat' first
      | (with_reducible exact ih0 _ _ _ _)
      | (with_reducible exact body_Chunks.mono _ _ _)
      | (with_reducible exact crossroadlaw03_Feed.mono _ _ _)
      | (with_reducible exact crossroadlaw03_fit.mono _)
      | (with_reducible exact LeO.refl _)
      | (with_reducible exact LeO.none _)
      | (with_reducible refine LeO.ite ?_ ?_)
      | (with_reducible refine LeO.bind ?_ (fun _ => ?_))
      | exact ih0 _ _ _ _
      | exact body_Chunks.mono _ _ _
      | exact crossroadlaw03_Feed.mono _ _ _
      | exact crossroadlaw03_fit.mono _
      | exact LeO.none _
      | refine LeO.ite ?_ ?_
      | refine LeO.bind ?_ (fun _ => ?_)
theorem crossroadlaw03_BodyChunks.mono : ∀ a0 a1 a2 k, LeO (crossroadlaw03_BodyChunks.f k a0 a1 a2) (crossroadlaw03_BodyChunks.f (k + 1) a0 a1 a2) := by
  intro a0 a1 a2 k
  have ih0 := crossroadlaw03_BodyChunks.mono_l k
  unfold crossroadlaw03_BodyChunks.f
  repeat' first
      | (with_reducible exact ih0 _ _ _ _)
      | (with_reducible exact body_Chunks.mono _ _ _)
      | (with_reducible exact crossroadlaw03_Feed.mono _ _ _)
      | (with_reducible exact crossroadlaw03_fit.mono _)
      | (with_reducible exact LeO.refl _)
      | (with_reducible exact LeO.none _)
      | (with_reducible refine LeO.ite ?_ ?_)
      | (with_reducible refine LeO.bind ?_ (fun _ => ?_))
      | exact ih0 _ _ _ _
      | exact body_Chunks.mono _ _ _
      | exact crossroadlaw03_Feed.mono _ _ _
      | exact crossroadlaw03_fit.mono _
      | exact LeO.none _
      | refine LeO.ite ?_ ?_
      | refine LeO.bind ?_ (fun _ => ?_)
set_option maxHeartbeats 8000000 in
set_option maxRecDepth 100000 in
theorem crossroadlaw03_BodyChunks.calls (k : Nat) (a0 : ByteArray) (a1 : Int) (a2 : ByteArray) (r : Bool) (w : World) (h : crossroadlaw03_BodyChunks.f k a0 a1 a2 = some r) :
    Calls Try.prog 7 #[.string a0, .int .i64 a1, .string a2] w fun e w' => e = .returned (.bool r) ∧ Below w.heap.size w w' := by
  have HB := Aside0.mk (Below.refl w.heap.size w)
  have H : ((crossroadlaw03_fit.f k).bind fun t159 => (if t159 = true then (if (a0.size : Int) > 1500 then (crossroadlaw03_BodyChunks.j0 k a0 a1 a2 true) else (crossroadlaw03_BodyChunks.j0 k a0 a1 a2 (decide ((a2.size : Int) > 500)))) else (some false))) = some r := h
  clear h
  replace H := Option.bind_eq_some_iff.mp H
  obtain ⟨t159, A40, H⟩ := H
  replace H : (if t159 = true then (if (a0.size : Int) > 1500 then (crossroadlaw03_BodyChunks.j0 k a0 a1 a2 true) else (crossroadlaw03_BodyChunks.j0 k a0 a1 a2 (decide ((a2.size : Int) > 500)))) else (some false)) = some r := H
  have A4 := Aside0.mk A40
  clear A40
  by_cases c5 : t159 = true
  · subst c5
    have H1 : (if (a0.size : Int) > 1500 then (crossroadlaw03_BodyChunks.j0 k a0 a1 a2 true) else (crossroadlaw03_BodyChunks.j0 k a0 a1 a2 (decide ((a2.size : Int) > 500)))) = some r := by rw [if_pos rfl] at H; exact H
    clear H
    have H := H1
    clear H1
    have HC6 := Aside0.mk H
    clear H
    go_enter Try.func7, Try.ntmps7
    go_upto_region 3 with (first | ((with_reducible refine gate_callee (f := 9) rfl ?_); refine goesL_ (some 10) rfl rfl Try.func9 (by kernel_rfl) rfl #[] rfl (by (try simp only [List.map_toArray, List.map_cons, List.map_nil]); first | done | rfl | (simp only [List.length_drop, List.length_take]; rfl)) ?_; (with_reducible refine (crossroadlaw03_fit.calls k  true _ A4.out).mono ?_); rintro e w7 ⟨rfl, hb⟩; (try (have nM_ := Aside0.mk (BodyOwn.below (by repeat (first | exact HOB.out | refine BodyOwn.drewN ?_ | refine BodyOwn.alloc ?_ | refine BodyOwn.drew ?_)) hb); clear HOB; have HOB := nM_; clear nM_)); refine ⟨_, rfl, ?_⟩; have n0_ := Aside0.mk (below_step (by repeat (first | (with_reducible first | exact HB.out | apply below_alloc | apply pw_below_drewN | apply below_drew1) | exact HB.out)) hb); clear HB; have HB := n0_; clear n0_; (try clear hb); (try clear hb2); (try clear hk); (try clear hi)))
    (try simp only [Act.put, List.setIfInBounds_toArray, List.set_cons_zero, List.set_cons_succ])
    go_cut [19] (fun v19 wc => ∃ (kq : Nat) (x19_5 : Bool), v19 = .bool x19_5 ∧ Aside0 (crossroadlaw03_BodyChunks.j0 kq a0 a1 a2 x19_5 = some r) ∧ Aside0 (kq ≤ k) ∧ Aside0 (Below w.heap.size w wc))
    case first =>
      have H := HC6.out
      clear HC6
      by_cases c8 : (a0.size : Int) > 1500
      · rw [if_pos c8] at H
        have c8b0 : decide (1500 < (a0.size : Int)) = true := decide_eq_true c8
        have c8b1 : decide (1500 < a0.size) = true := decide_eq_true (by omega)
        clear c8
        (first | rw [c8b0] | (simp only [i64_w, i32_w]; rw [c8b0]) | skip)
        have H' := Aside0.mk H
        clear H
        go_wp2
        go_meet
        case rel => exact ⟨_, (true), (by first | rfl | (simp; done) | (simp [*]; done)), H', ⟨by first | omega | exact Nat.le_refl _⟩, ⟨by repeat (first | (with_reducible first | exact HB.out | apply below_alloc | apply pw_below_drewN | apply below_drew1) | exact HB.out)⟩⟩
      · rw [if_neg c8] at H
        have c8b0 : decide (1500 < (a0.size : Int)) = false := decide_eq_false c8
        have c8b1 : decide (1500 < a0.size) = false := decide_eq_false (by omega)
        clear c8
        (first | rw [c8b0] | (simp only [i64_w, i32_w]; rw [c8b0]) | skip)
        have H' := Aside0.mk H
        clear H
        go_wp2
        go_meet
        case rel => exact ⟨_, (decide ((a2.size : Int) > 500)), (by first | rfl | (simp; done) | (simp [*]; done)), H', ⟨by first | omega | exact Nat.le_refl _⟩, ⟨by repeat (first | (with_reducible first | exact HB.out | apply below_alloc | apply pw_below_drewN | apply below_drew1) | exact HB.out)⟩⟩
    case rest =>
      clear HC6
      try clear p2
      try clear c5
      try clear c7
      try clear c8
      try clear c8b0
      try clear c8b1
      obtain ⟨kq, x19_5, rfl, HA, HJ5, HB⟩ := hcut
      cases kq with
      | zero => exact absurd HA.out (by simp [crossroadlaw03_BodyChunks.j0])
      | succ kj5 =>
        have H := HA.out
        clear HA
        simp only [crossroadlaw03_BodyChunks.j0] at H
        by_cases c9 : x19_5 = true
        · subst c9
          have H1 : (some true) = some r := by rw [if_pos rfl] at H; exact H
          clear H
          have H := H1
          clear H1
          obtain rfl := Option.some.inj H
          go_wp2
          go_ret
          exact ⟨by first | rfl | (simp [errW_none, errW_some] <;> rfl) | (simp [*, errW_none, errW_some] <;> rfl), by repeat (first | (with_reducible first | exact HB.out | apply below_alloc | apply pw_below_drewN | apply below_drew1) | exact HB.out)⟩
        · replace c9 := Bool.eq_false_iff.mpr c9
          subst c9
          have H1 : ((body_Chunks.f kj5 a0 (wrap64 ((Go.bits .and .i64 a1 63) + 1))).bind fun t160 => (if t160.size + a2.size ≤ 9223372036854775807 then ((crossroadlaw03_Feed.f kj5 (-1) (t160 ++ a2)).bind fun bt161 => (if (a0.size : Int) > 600 then ((body_Body_Status.f bt161.1).bind fun t163 => (some (t163 == 413))) else ((body_Body_Done.f bt161.1).bind fun t164 => (if t164 = true then ((body_Body_Status.f bt161.1).bind fun t165 => (if t165 = 0 then ((body_Body_Data.f bt161.1).bind fun t166 => (if t166.toList = a0.toList then (if bt161.2 = (t160.size : Int) then ((body_Chunks.f kj5 a0 (wrap64 (-(wrap64 ((Go.bits .and .i64 a1 63) + 1))))).bind fun t167 => ((body_Chunks.f kj5 a0 1).bind fun t168 => (some (t167.toList == t168.toList)))) else (some false)) else (some false))) else (some false))) else (some false))))) else (none))) = some r := by rw [if_neg (show ¬ (false = true) by decide)] at H; exact H
          clear H
          have H := H1
          clear H1
          replace H := Option.bind_eq_some_iff.mp H
          obtain ⟨t160, A100, H⟩ := H
          replace H : (if t160.size + a2.size ≤ 9223372036854775807 then ((crossroadlaw03_Feed.f kj5 (-1) (t160 ++ a2)).bind fun bt161 => (if (a0.size : Int) > 600 then ((body_Body_Status.f bt161.1).bind fun t163 => (some (t163 == 413))) else ((body_Body_Done.f bt161.1).bind fun t164 => (if t164 = true then ((body_Body_Status.f bt161.1).bind fun t165 => (if t165 = 0 then ((body_Body_Data.f bt161.1).bind fun t166 => (if t166.toList = a0.toList then (if bt161.2 = (t160.size : Int) then ((body_Chunks.f kj5 a0 (wrap64 (-(wrap64 ((Go.bits .and .i64 a1 63) + 1))))).bind fun t167 => ((body_Chunks.f kj5 a0 1).bind fun t168 => (some (t167.toList == t168.toList)))) else (some false)) else (some false))) else (some false))) else (some false))))) else (none)) = some r := H
          have A10 := Aside0.mk A100
          clear A100
          by_cases c11 : t160.size + a2.size ≤ 9223372036854775807
          · rw [if_pos c11] at H
            have c11b0 := eq_true c11
            have c11b1 : decide (t160.size + a2.size ≤ 9223372036854775807) = true := decide_eq_true c11
            try have c11b2 : (9223372036854775807 < t160.size + a2.size) = False := eq_false (Nat.not_lt.2 c11)
            replace H := Option.bind_eq_some_iff.mp H
            obtain ⟨⟨t161, t162⟩, A120, H⟩ := H
            replace H : (if (a0.size : Int) > 600 then ((body_Body_Status.f t161).bind fun t163 => (some (t163 == 413))) else ((body_Body_Done.f t161).bind fun t164 => (if t164 = true then ((body_Body_Status.f t161).bind fun t165 => (if t165 = 0 then ((body_Body_Data.f t161).bind fun t166 => (if t166.toList = a0.toList then (if t162 = (t160.size : Int) then ((body_Chunks.f kj5 a0 (wrap64 (-(wrap64 ((Go.bits .and .i64 a1 63) + 1))))).bind fun t167 => ((body_Chunks.f kj5 a0 1).bind fun t168 => (some (t167.toList == t168.toList)))) else (some false)) else (some false))) else (some false))) else (some false)))) = some r := H
            have A12 := Aside0.mk A120
            clear A120
            by_cases c13 : (a0.size : Int) > 600
            · rw [if_pos c13] at H
              have c13b0 : decide (600 < (a0.size : Int)) = true := decide_eq_true c13
              have c13b1 : decide (600 < a0.size) = true := decide_eq_true (by omega)
              clear c13
              replace H := Option.bind_eq_some_iff.mp H
              obtain ⟨t163, A140, H⟩ := H
              replace H : (some (t163 == 413)) = some r := H
              have A14 := Aside0.mk A140
              clear A140
              obtain rfl := Option.some.inj H
              go_wp2_with (first | ((with_reducible refine gate_callee (f := 16) rfl ?_); refine goesL_ (some 25) rfl rfl Try.func16 (by kernel_rfl) rfl #[.string a0, .int .i64 (wrap64 ((Go.bits .and .i64 a1 63) + 1))] rfl (by (try simp only [List.map_toArray, List.map_cons, List.map_nil]); first | done | rfl | (simp only [List.length_drop, List.length_take]; rfl)) ?_; (with_reducible refine (body_Chunks.calls kj5 a0 (wrap64 ((Go.bits .and .i64 a1 63) + 1)) t160 _ A10.out).mono ?_); rintro e w15 ⟨rfl, hb⟩; (try (have nM_ := Aside0.mk (BodyOwn.below (by repeat (first | exact HOB.out | refine BodyOwn.drewN ?_ | refine BodyOwn.alloc ?_ | refine BodyOwn.drew ?_)) hb); clear HOB; have HOB := nM_; clear nM_)); refine ⟨_, rfl, ?_⟩; have n0_ := Aside0.mk (below_step (by repeat (first | (with_reducible first | exact HB.out | apply below_alloc | apply pw_below_drewN | apply below_drew1) | exact HB.out)) hb); clear HB; have HB := n0_; clear n0_; (try clear hb); (try clear hb2); (try clear hk); (try clear hi)) | ((with_reducible refine gate_callee (f := 10) rfl ?_); refine goesL_ (some 30) rfl rfl Try.func10 (by kernel_rfl) rfl #[.int .i64 (-1), .string (t160 ++ a2)] rfl (by (try simp only [List.map_toArray, List.map_cons, List.map_nil]); first | done | rfl | (simp only [List.length_drop, List.length_take]; rfl)) ?_; (with_reducible refine (crossroadlaw03_Feed.calls kj5 (-1) (t160 ++ a2) t161 t162 _ A12.out).mono ?_); rintro e w16 ⟨VO, rfl, hO_, hb⟩; have HOB := Aside0.mk (BodyOwn.less hO_ (below_size (by repeat (first | (with_reducible first | exact HB.out | apply below_alloc | apply pw_below_drewN | apply below_drew1) | exact HB.out)))); clear hO_; refine ⟨_, rfl, ?_⟩; have n0_ := Aside0.mk (below_step (by repeat (first | (with_reducible first | exact HB.out | apply below_alloc | apply pw_below_drewN | apply below_drew1) | exact HB.out)) hb); clear HB; have HB := n0_; clear n0_; (try clear hb); (try clear hb2); (try clear hk); (try clear hi)) | ((with_reducible refine gate_callee (f := 11) rfl ?_); refine goesL_ (some 37) rfl rfl Try.func11 (by kernel_rfl) rfl #[VO] rfl (by (try simp only [List.map_toArray, List.map_cons, List.map_nil]); first | done | rfl | (simp only [List.length_drop, List.length_take]; rfl)) ?_; (refine (body_Body_Status.calls VO (bas w.heap.size) t161 t163 _ (by repeat (first | exact HOB.out | refine BodyOwn.drewN ?_ | refine BodyOwn.alloc ?_ | refine BodyOwn.drew ?_)) A14.out).mono ?_); rintro e w' ⟨rfl, ⟨nd, rfl⟩⟩; refine ⟨_, rfl, ?_⟩))
              go_ret
              exact ⟨by first | rfl | (simp [errW_none, errW_some] <;> rfl) | (simp [*, errW_none, errW_some] <;> rfl), by repeat (first | (with_reducible first | exact HB.out | apply below_alloc | apply pw_below_drewN | apply below_drew1) | exact HB.out)⟩
            · rw [if_neg c13] at H
              have c13b0 : decide (600 < (a0.size : Int)) = false := decide_eq_false c13
              have c13b1 : decide (600 < a0.size) = false := decide_eq_false (by omega)
              clear c13
              replace H := Option.bind_eq_some_iff.mp H
              obtain ⟨t164, A170, H⟩ := H
              replace H : (if t164 = true then ((body_Body_Status.f t161).bind fun t165 => (if t165 = 0 then ((body_Body_Data.f t161).bind fun t166 => (if t166.toList = a0.toList then (if t162 = (t160.size : Int) then ((body_Chunks.f kj5 a0 (wrap64 (-(wrap64 ((Go.bits .and .i64 a1 63) + 1))))).bind fun t167 => ((body_Chunks.f kj5 a0 1).bind fun t168 => (some (t167.toList == t168.toList)))) else (some false)) else (some false))) else (some false))) else (some false)) = some r := H
              have A17 := Aside0.mk A170
              clear A170
              by_cases c18 : t164 = true
              · subst c18
                have H1 : ((body_Body_Status.f t161).bind fun t165 => (if t165 = 0 then ((body_Body_Data.f t161).bind fun t166 => (if t166.toList = a0.toList then (if t162 = (t160.size : Int) then ((body_Chunks.f kj5 a0 (wrap64 (-(wrap64 ((Go.bits .and .i64 a1 63) + 1))))).bind fun t167 => ((body_Chunks.f kj5 a0 1).bind fun t168 => (some (t167.toList == t168.toList)))) else (some false)) else (some false))) else (some false))) = some r := by rw [if_pos rfl] at H; exact H
                clear H
                have H := H1
                clear H1
                replace H := Option.bind_eq_some_iff.mp H
                obtain ⟨t165, A190, H⟩ := H
                replace H : (if t165 = 0 then ((body_Body_Data.f t161).bind fun t166 => (if t166.toList = a0.toList then (if t162 = (t160.size : Int) then ((body_Chunks.f kj5 a0 (wrap64 (-(wrap64 ((Go.bits .and .i64 a1 63) + 1))))).bind fun t167 => ((body_Chunks.f kj5 a0 1).bind fun t168 => (some (t167.toList == t168.toList)))) else (some false)) else (some false))) else (some false)) = some r := H
                have A19 := Aside0.mk A190
                clear A190
                by_cases c20 : t165 = 0
                · rw [if_pos c20] at H
                  have c20b0 : (t165 == 0) = true := beq_iff_eq.mpr c20
                  have c20b1 : (t165 != 0) = false := bne_eq_false_iff_eq.mpr c20
                  clear c20
                  replace H := Option.bind_eq_some_iff.mp H
                  obtain ⟨t166, A210, H⟩ := H
                  replace H : (if t166.toList = a0.toList then (if t162 = (t160.size : Int) then ((body_Chunks.f kj5 a0 (wrap64 (-(wrap64 ((Go.bits .and .i64 a1 63) + 1))))).bind fun t167 => ((body_Chunks.f kj5 a0 1).bind fun t168 => (some (t167.toList == t168.toList)))) else (some false)) else (some false)) = some r := H
                  have A21 := Aside0.mk A210
                  clear A210
                  by_cases c22 : t166.toList = a0.toList
                  · rw [if_pos c22] at H
                    have c22b0 : (t166.toList == a0.toList) = true := beq_iff_eq.mpr c22
                    have c22b1 : (t166.toList != a0.toList) = false := bne_eq_false_iff_eq.mpr c22
                    clear c22
                    by_cases c23 : t162 = (t160.size : Int)
                    · rw [if_pos c23] at H
                      have c23b0 : (t162 == (t160.size : Int)) = true := beq_iff_eq.mpr c23
                      have c23b1 : (t162 != (t160.size : Int)) = false := bne_eq_false_iff_eq.mpr c23
                      clear c23
                      replace H := Option.bind_eq_some_iff.mp H
                      obtain ⟨t167, A240, H⟩ := H
                      replace H : ((body_Chunks.f kj5 a0 1).bind fun t168 => (some (t167.toList == t168.toList))) = some r := H
                      have A24 := Aside0.mk A240
                      clear A240
                      replace H := Option.bind_eq_some_iff.mp H
                      obtain ⟨t168, A250, H⟩ := H
                      replace H : (some (t167.toList == t168.toList)) = some r := H
                      have A25 := Aside0.mk A250
                      clear A250
                      obtain rfl := Option.some.inj H
                      go_wp2_with (first | ((with_reducible refine gate_callee (f := 16) rfl ?_); refine goesL_ (some 25) rfl rfl Try.func16 (by kernel_rfl) rfl #[.string a0, .int .i64 (wrap64 ((Go.bits .and .i64 a1 63) + 1))] rfl (by (try simp only [List.map_toArray, List.map_cons, List.map_nil]); first | done | rfl | (simp only [List.length_drop, List.length_take]; rfl)) ?_; (with_reducible refine (body_Chunks.calls kj5 a0 (wrap64 ((Go.bits .and .i64 a1 63) + 1)) t160 _ A10.out).mono ?_); rintro e w26 ⟨rfl, hb⟩; (try (have nM_ := Aside0.mk (BodyOwn.below (by repeat (first | exact HOB.out | refine BodyOwn.drewN ?_ | refine BodyOwn.alloc ?_ | refine BodyOwn.drew ?_)) hb); clear HOB; have HOB := nM_; clear nM_)); refine ⟨_, rfl, ?_⟩; have n0_ := Aside0.mk (below_step (by repeat (first | (with_reducible first | exact HB.out | apply below_alloc | apply pw_below_drewN | apply below_drew1) | exact HB.out)) hb); clear HB; have HB := n0_; clear n0_; (try clear hb); (try clear hb2); (try clear hk); (try clear hi)) | ((with_reducible refine gate_callee (f := 10) rfl ?_); refine goesL_ (some 30) rfl rfl Try.func10 (by kernel_rfl) rfl #[.int .i64 (-1), .string (t160 ++ a2)] rfl (by (try simp only [List.map_toArray, List.map_cons, List.map_nil]); first | done | rfl | (simp only [List.length_drop, List.length_take]; rfl)) ?_; (with_reducible refine (crossroadlaw03_Feed.calls kj5 (-1) (t160 ++ a2) t161 t162 _ A12.out).mono ?_); rintro e w27 ⟨VO, rfl, hO_, hb⟩; have HOB := Aside0.mk (BodyOwn.less hO_ (below_size (by repeat (first | (with_reducible first | exact HB.out | apply below_alloc | apply pw_below_drewN | apply below_drew1) | exact HB.out)))); clear hO_; refine ⟨_, rfl, ?_⟩; have n0_ := Aside0.mk (below_step (by repeat (first | (with_reducible first | exact HB.out | apply below_alloc | apply pw_below_drewN | apply below_drew1) | exact HB.out)) hb); clear HB; have HB := n0_; clear n0_; (try clear hb); (try clear hb2); (try clear hk); (try clear hi)) | ((with_reducible refine gate_callee (f := 13) rfl ?_); refine goesL_ (some 40) rfl rfl Try.func13 (by kernel_rfl) rfl #[VO] rfl (by (try simp only [List.map_toArray, List.map_cons, List.map_nil]); first | done | rfl | (simp only [List.length_drop, List.length_take]; rfl)) ?_; (refine (body_Body_Done.calls VO (bas w.heap.size) t161 true _ (by repeat (first | exact HOB.out | refine BodyOwn.drewN ?_ | refine BodyOwn.alloc ?_ | refine BodyOwn.drew ?_)) A17.out).mono ?_); rintro e w' ⟨rfl, ⟨nd, rfl⟩⟩; refine ⟨_, rfl, ?_⟩) | (go_at_call 11; (refine (body_Body_Status.calls VO (bas w.heap.size) t161 t165 _ (by repeat (first | exact HOB.out | refine BodyOwn.drewN ?_ | refine BodyOwn.alloc ?_ | refine BodyOwn.drew ?_)) A19.out).mono ?_); rintro e w' ⟨rfl, ⟨nd, rfl⟩⟩) | (go_at_call 12; (refine (body_Body_Data.calls VO (bas w.heap.size) t161 t166 _ (by repeat (first | exact HOB.out | refine BodyOwn.drewN ?_ | refine BodyOwn.alloc ?_ | refine BodyOwn.drew ?_)) A21.out).mono ?_); rintro e w' ⟨rfl, ⟨nd, rfl⟩⟩) | (go_at_call 16; (with_reducible refine (body_Chunks.calls kj5 a0 (wrap64 (-(wrap64 ((Go.bits .and .i64 a1 63) + 1)))) t167 _ A24.out).mono ?_); rintro e w28 ⟨rfl, hb⟩; (try (have nM_ := Aside0.mk (BodyOwn.below (by repeat (first | exact HOB.out | refine BodyOwn.drewN ?_ | refine BodyOwn.alloc ?_ | refine BodyOwn.drew ?_)) hb); clear HOB; have HOB := nM_; clear nM_)); have n0_ := Aside0.mk (below_step (by repeat (first | (with_reducible first | exact HB.out | apply below_alloc | apply pw_below_drewN | apply below_drew1) | exact HB.out)) hb); clear HB; have HB := n0_; clear n0_; (try clear hb); (try clear hb2); (try clear hk); (try clear hi)) | (go_at_call 16; (with_reducible refine (body_Chunks.calls kj5 a0 1 t168 _ A25.out).mono ?_); rintro e w29 ⟨rfl, hb⟩; (try (have nM_ := Aside0.mk (BodyOwn.below (by repeat (first | exact HOB.out | refine BodyOwn.drewN ?_ | refine BodyOwn.alloc ?_ | refine BodyOwn.drew ?_)) hb); clear HOB; have HOB := nM_; clear nM_)); have n0_ := Aside0.mk (below_step (by repeat (first | (with_reducible first | exact HB.out | apply below_alloc | apply pw_below_drewN | apply below_drew1) | exact HB.out)) hb); clear HB; have HB := n0_; clear n0_; (try clear hb); (try clear hb2); (try clear hk); (try clear hi)))
                      go_ret
                      exact ⟨by first | rfl | (simp [errW_none, errW_some] <;> rfl) | (simp [*, errW_none, errW_some] <;> rfl), by repeat (first | (with_reducible first | exact HB.out | apply below_alloc | apply pw_below_drewN | apply below_drew1) | exact HB.out)⟩
                    · rw [if_neg c23] at H
                      have c23b0 : (t162 == (t160.size : Int)) = false := beq_eq_false_iff_ne.mpr c23
                      have c23b1 : (t162 != (t160.size : Int)) = true := bne_iff_ne.mpr c23
                      obtain rfl := Option.some.inj H
                      go_wp2_with (first | ((with_reducible refine gate_callee (f := 16) rfl ?_); refine goesL_ (some 25) rfl rfl Try.func16 (by kernel_rfl) rfl #[.string a0, .int .i64 (wrap64 ((Go.bits .and .i64 a1 63) + 1))] rfl (by (try simp only [List.map_toArray, List.map_cons, List.map_nil]); first | done | rfl | (simp only [List.length_drop, List.length_take]; rfl)) ?_; (with_reducible refine (body_Chunks.calls kj5 a0 (wrap64 ((Go.bits .and .i64 a1 63) + 1)) t160 _ A10.out).mono ?_); rintro e w30 ⟨rfl, hb⟩; (try (have nM_ := Aside0.mk (BodyOwn.below (by repeat (first | exact HOB.out | refine BodyOwn.drewN ?_ | refine BodyOwn.alloc ?_ | refine BodyOwn.drew ?_)) hb); clear HOB; have HOB := nM_; clear nM_)); refine ⟨_, rfl, ?_⟩; have n0_ := Aside0.mk (below_step (by repeat (first | (with_reducible first | exact HB.out | apply below_alloc | apply pw_below_drewN | apply below_drew1) | exact HB.out)) hb); clear HB; have HB := n0_; clear n0_; (try clear hb); (try clear hb2); (try clear hk); (try clear hi)) | ((with_reducible refine gate_callee (f := 10) rfl ?_); refine goesL_ (some 30) rfl rfl Try.func10 (by kernel_rfl) rfl #[.int .i64 (-1), .string (t160 ++ a2)] rfl (by (try simp only [List.map_toArray, List.map_cons, List.map_nil]); first | done | rfl | (simp only [List.length_drop, List.length_take]; rfl)) ?_; (with_reducible refine (crossroadlaw03_Feed.calls kj5 (-1) (t160 ++ a2) t161 t162 _ A12.out).mono ?_); rintro e w31 ⟨VO, rfl, hO_, hb⟩; have HOB := Aside0.mk (BodyOwn.less hO_ (below_size (by repeat (first | (with_reducible first | exact HB.out | apply below_alloc | apply pw_below_drewN | apply below_drew1) | exact HB.out)))); clear hO_; refine ⟨_, rfl, ?_⟩; have n0_ := Aside0.mk (below_step (by repeat (first | (with_reducible first | exact HB.out | apply below_alloc | apply pw_below_drewN | apply below_drew1) | exact HB.out)) hb); clear HB; have HB := n0_; clear n0_; (try clear hb); (try clear hb2); (try clear hk); (try clear hi)) | ((with_reducible refine gate_callee (f := 13) rfl ?_); refine goesL_ (some 40) rfl rfl Try.func13 (by kernel_rfl) rfl #[VO] rfl (by (try simp only [List.map_toArray, List.map_cons, List.map_nil]); first | done | rfl | (simp only [List.length_drop, List.length_take]; rfl)) ?_; (refine (body_Body_Done.calls VO (bas w.heap.size) t161 true _ (by repeat (first | exact HOB.out | refine BodyOwn.drewN ?_ | refine BodyOwn.alloc ?_ | refine BodyOwn.drew ?_)) A17.out).mono ?_); rintro e w' ⟨rfl, ⟨nd, rfl⟩⟩; refine ⟨_, rfl, ?_⟩) | (go_at_call 11; (refine (body_Body_Status.calls VO (bas w.heap.size) t161 t165 _ (by repeat (first | exact HOB.out | refine BodyOwn.drewN ?_ | refine BodyOwn.alloc ?_ | refine BodyOwn.drew ?_)) A19.out).mono ?_); rintro e w' ⟨rfl, ⟨nd, rfl⟩⟩) | (go_at_call 12; (refine (body_Body_Data.calls VO (bas w.heap.size) t161 t166 _ (by repeat (first | exact HOB.out | refine BodyOwn.drewN ?_ | refine BodyOwn.alloc ?_ | refine BodyOwn.drew ?_)) A21.out).mono ?_); rintro e w' ⟨rfl, ⟨nd, rfl⟩⟩))
                      go_ret
                      exact ⟨by first | rfl | (simp [errW_none, errW_some] <;> rfl) | (simp [*, errW_none, errW_some] <;> rfl), by repeat (first | (with_reducible first | exact HB.out | apply below_alloc | apply pw_below_drewN | apply below_drew1) | exact HB.out)⟩
                  · rw [if_neg c22] at H
                    have c22b0 : (t166.toList == a0.toList) = false := beq_eq_false_iff_ne.mpr c22
                    have c22b1 : (t166.toList != a0.toList) = true := bne_iff_ne.mpr c22
                    obtain rfl := Option.some.inj H
                    go_wp2_with (first | ((with_reducible refine gate_callee (f := 16) rfl ?_); refine goesL_ (some 25) rfl rfl Try.func16 (by kernel_rfl) rfl #[.string a0, .int .i64 (wrap64 ((Go.bits .and .i64 a1 63) + 1))] rfl (by (try simp only [List.map_toArray, List.map_cons, List.map_nil]); first | done | rfl | (simp only [List.length_drop, List.length_take]; rfl)) ?_; (with_reducible refine (body_Chunks.calls kj5 a0 (wrap64 ((Go.bits .and .i64 a1 63) + 1)) t160 _ A10.out).mono ?_); rintro e w32 ⟨rfl, hb⟩; (try (have nM_ := Aside0.mk (BodyOwn.below (by repeat (first | exact HOB.out | refine BodyOwn.drewN ?_ | refine BodyOwn.alloc ?_ | refine BodyOwn.drew ?_)) hb); clear HOB; have HOB := nM_; clear nM_)); refine ⟨_, rfl, ?_⟩; have n0_ := Aside0.mk (below_step (by repeat (first | (with_reducible first | exact HB.out | apply below_alloc | apply pw_below_drewN | apply below_drew1) | exact HB.out)) hb); clear HB; have HB := n0_; clear n0_; (try clear hb); (try clear hb2); (try clear hk); (try clear hi)) | ((with_reducible refine gate_callee (f := 10) rfl ?_); refine goesL_ (some 30) rfl rfl Try.func10 (by kernel_rfl) rfl #[.int .i64 (-1), .string (t160 ++ a2)] rfl (by (try simp only [List.map_toArray, List.map_cons, List.map_nil]); first | done | rfl | (simp only [List.length_drop, List.length_take]; rfl)) ?_; (with_reducible refine (crossroadlaw03_Feed.calls kj5 (-1) (t160 ++ a2) t161 t162 _ A12.out).mono ?_); rintro e w33 ⟨VO, rfl, hO_, hb⟩; have HOB := Aside0.mk (BodyOwn.less hO_ (below_size (by repeat (first | (with_reducible first | exact HB.out | apply below_alloc | apply pw_below_drewN | apply below_drew1) | exact HB.out)))); clear hO_; refine ⟨_, rfl, ?_⟩; have n0_ := Aside0.mk (below_step (by repeat (first | (with_reducible first | exact HB.out | apply below_alloc | apply pw_below_drewN | apply below_drew1) | exact HB.out)) hb); clear HB; have HB := n0_; clear n0_; (try clear hb); (try clear hb2); (try clear hk); (try clear hi)) | ((with_reducible refine gate_callee (f := 13) rfl ?_); refine goesL_ (some 40) rfl rfl Try.func13 (by kernel_rfl) rfl #[VO] rfl (by (try simp only [List.map_toArray, List.map_cons, List.map_nil]); first | done | rfl | (simp only [List.length_drop, List.length_take]; rfl)) ?_; (refine (body_Body_Done.calls VO (bas w.heap.size) t161 true _ (by repeat (first | exact HOB.out | refine BodyOwn.drewN ?_ | refine BodyOwn.alloc ?_ | refine BodyOwn.drew ?_)) A17.out).mono ?_); rintro e w' ⟨rfl, ⟨nd, rfl⟩⟩; refine ⟨_, rfl, ?_⟩) | (go_at_call 11; (refine (body_Body_Status.calls VO (bas w.heap.size) t161 t165 _ (by repeat (first | exact HOB.out | refine BodyOwn.drewN ?_ | refine BodyOwn.alloc ?_ | refine BodyOwn.drew ?_)) A19.out).mono ?_); rintro e w' ⟨rfl, ⟨nd, rfl⟩⟩) | (go_at_call 12; (refine (body_Body_Data.calls VO (bas w.heap.size) t161 t166 _ (by repeat (first | exact HOB.out | refine BodyOwn.drewN ?_ | refine BodyOwn.alloc ?_ | refine BodyOwn.drew ?_)) A21.out).mono ?_); rintro e w' ⟨rfl, ⟨nd, rfl⟩⟩))
                    go_ret
                    exact ⟨by first | rfl | (simp [errW_none, errW_some] <;> rfl) | (simp [*, errW_none, errW_some] <;> rfl), by repeat (first | (with_reducible first | exact HB.out | apply below_alloc | apply pw_below_drewN | apply below_drew1) | exact HB.out)⟩
                · rw [if_neg c20] at H
                  have c20b0 : (t165 == 0) = false := beq_eq_false_iff_ne.mpr c20
                  have c20b1 : (t165 != 0) = true := bne_iff_ne.mpr c20
                  obtain rfl := Option.some.inj H
                  go_wp2_with (first | ((with_reducible refine gate_callee (f := 16) rfl ?_); refine goesL_ (some 25) rfl rfl Try.func16 (by kernel_rfl) rfl #[.string a0, .int .i64 (wrap64 ((Go.bits .and .i64 a1 63) + 1))] rfl (by (try simp only [List.map_toArray, List.map_cons, List.map_nil]); first | done | rfl | (simp only [List.length_drop, List.length_take]; rfl)) ?_; (with_reducible refine (body_Chunks.calls kj5 a0 (wrap64 ((Go.bits .and .i64 a1 63) + 1)) t160 _ A10.out).mono ?_); rintro e w34 ⟨rfl, hb⟩; (try (have nM_ := Aside0.mk (BodyOwn.below (by repeat (first | exact HOB.out | refine BodyOwn.drewN ?_ | refine BodyOwn.alloc ?_ | refine BodyOwn.drew ?_)) hb); clear HOB; have HOB := nM_; clear nM_)); refine ⟨_, rfl, ?_⟩; have n0_ := Aside0.mk (below_step (by repeat (first | (with_reducible first | exact HB.out | apply below_alloc | apply pw_below_drewN | apply below_drew1) | exact HB.out)) hb); clear HB; have HB := n0_; clear n0_; (try clear hb); (try clear hb2); (try clear hk); (try clear hi)) | ((with_reducible refine gate_callee (f := 10) rfl ?_); refine goesL_ (some 30) rfl rfl Try.func10 (by kernel_rfl) rfl #[.int .i64 (-1), .string (t160 ++ a2)] rfl (by (try simp only [List.map_toArray, List.map_cons, List.map_nil]); first | done | rfl | (simp only [List.length_drop, List.length_take]; rfl)) ?_; (with_reducible refine (crossroadlaw03_Feed.calls kj5 (-1) (t160 ++ a2) t161 t162 _ A12.out).mono ?_); rintro e w35 ⟨VO, rfl, hO_, hb⟩; have HOB := Aside0.mk (BodyOwn.less hO_ (below_size (by repeat (first | (with_reducible first | exact HB.out | apply below_alloc | apply pw_below_drewN | apply below_drew1) | exact HB.out)))); clear hO_; refine ⟨_, rfl, ?_⟩; have n0_ := Aside0.mk (below_step (by repeat (first | (with_reducible first | exact HB.out | apply below_alloc | apply pw_below_drewN | apply below_drew1) | exact HB.out)) hb); clear HB; have HB := n0_; clear n0_; (try clear hb); (try clear hb2); (try clear hk); (try clear hi)) | ((with_reducible refine gate_callee (f := 13) rfl ?_); refine goesL_ (some 40) rfl rfl Try.func13 (by kernel_rfl) rfl #[VO] rfl (by (try simp only [List.map_toArray, List.map_cons, List.map_nil]); first | done | rfl | (simp only [List.length_drop, List.length_take]; rfl)) ?_; (refine (body_Body_Done.calls VO (bas w.heap.size) t161 true _ (by repeat (first | exact HOB.out | refine BodyOwn.drewN ?_ | refine BodyOwn.alloc ?_ | refine BodyOwn.drew ?_)) A17.out).mono ?_); rintro e w' ⟨rfl, ⟨nd, rfl⟩⟩; refine ⟨_, rfl, ?_⟩) | (go_at_call 11; (refine (body_Body_Status.calls VO (bas w.heap.size) t161 t165 _ (by repeat (first | exact HOB.out | refine BodyOwn.drewN ?_ | refine BodyOwn.alloc ?_ | refine BodyOwn.drew ?_)) A19.out).mono ?_); rintro e w' ⟨rfl, ⟨nd, rfl⟩⟩))
                  go_ret
                  exact ⟨by first | rfl | (simp [errW_none, errW_some] <;> rfl) | (simp [*, errW_none, errW_some] <;> rfl), by repeat (first | (with_reducible first | exact HB.out | apply below_alloc | apply pw_below_drewN | apply below_drew1) | exact HB.out)⟩
              · replace c18 := Bool.eq_false_iff.mpr c18
                subst c18
                have H1 : (some false) = some r := by rw [if_neg (show ¬ (false = true) by decide)] at H; exact H
                clear H
                have H := H1
                clear H1
                obtain rfl := Option.some.inj H
                go_wp2_with (first | ((with_reducible refine gate_callee (f := 16) rfl ?_); refine goesL_ (some 25) rfl rfl Try.func16 (by kernel_rfl) rfl #[.string a0, .int .i64 (wrap64 ((Go.bits .and .i64 a1 63) + 1))] rfl (by (try simp only [List.map_toArray, List.map_cons, List.map_nil]); first | done | rfl | (simp only [List.length_drop, List.length_take]; rfl)) ?_; (with_reducible refine (body_Chunks.calls kj5 a0 (wrap64 ((Go.bits .and .i64 a1 63) + 1)) t160 _ A10.out).mono ?_); rintro e w36 ⟨rfl, hb⟩; (try (have nM_ := Aside0.mk (BodyOwn.below (by repeat (first | exact HOB.out | refine BodyOwn.drewN ?_ | refine BodyOwn.alloc ?_ | refine BodyOwn.drew ?_)) hb); clear HOB; have HOB := nM_; clear nM_)); refine ⟨_, rfl, ?_⟩; have n0_ := Aside0.mk (below_step (by repeat (first | (with_reducible first | exact HB.out | apply below_alloc | apply pw_below_drewN | apply below_drew1) | exact HB.out)) hb); clear HB; have HB := n0_; clear n0_; (try clear hb); (try clear hb2); (try clear hk); (try clear hi)) | ((with_reducible refine gate_callee (f := 10) rfl ?_); refine goesL_ (some 30) rfl rfl Try.func10 (by kernel_rfl) rfl #[.int .i64 (-1), .string (t160 ++ a2)] rfl (by (try simp only [List.map_toArray, List.map_cons, List.map_nil]); first | done | rfl | (simp only [List.length_drop, List.length_take]; rfl)) ?_; (with_reducible refine (crossroadlaw03_Feed.calls kj5 (-1) (t160 ++ a2) t161 t162 _ A12.out).mono ?_); rintro e w37 ⟨VO, rfl, hO_, hb⟩; have HOB := Aside0.mk (BodyOwn.less hO_ (below_size (by repeat (first | (with_reducible first | exact HB.out | apply below_alloc | apply pw_below_drewN | apply below_drew1) | exact HB.out)))); clear hO_; refine ⟨_, rfl, ?_⟩; have n0_ := Aside0.mk (below_step (by repeat (first | (with_reducible first | exact HB.out | apply below_alloc | apply pw_below_drewN | apply below_drew1) | exact HB.out)) hb); clear HB; have HB := n0_; clear n0_; (try clear hb); (try clear hb2); (try clear hk); (try clear hi)) | ((with_reducible refine gate_callee (f := 13) rfl ?_); refine goesL_ (some 40) rfl rfl Try.func13 (by kernel_rfl) rfl #[VO] rfl (by (try simp only [List.map_toArray, List.map_cons, List.map_nil]); first | done | rfl | (simp only [List.length_drop, List.length_take]; rfl)) ?_; (refine (body_Body_Done.calls VO (bas w.heap.size) t161 false _ (by repeat (first | exact HOB.out | refine BodyOwn.drewN ?_ | refine BodyOwn.alloc ?_ | refine BodyOwn.drew ?_)) A17.out).mono ?_); rintro e w' ⟨rfl, ⟨nd, rfl⟩⟩; refine ⟨_, rfl, ?_⟩))
                go_ret
                exact ⟨by first | rfl | (simp [errW_none, errW_some] <;> rfl) | (simp [*, errW_none, errW_some] <;> rfl), by repeat (first | (with_reducible first | exact HB.out | apply below_alloc | apply pw_below_drewN | apply below_drew1) | exact HB.out)⟩
          · rw [if_neg c11] at H
            exact absurd H (by simp)
  · replace c5 := Bool.eq_false_iff.mpr c5
    subst c5
    have H1 : (some false) = some r := by rw [if_neg (show ¬ (false = true) by decide)] at H; exact H
    clear H
    have H := H1
    clear H1
    obtain rfl := Option.some.inj H
    go_enter Try.func7, Try.ntmps7
    go_wp2_with (first | ((with_reducible refine gate_callee (f := 9) rfl ?_); refine goesL_ (some 10) rfl rfl Try.func9 (by kernel_rfl) rfl #[] rfl (by (try simp only [List.map_toArray, List.map_cons, List.map_nil]); first | done | rfl | (simp only [List.length_drop, List.length_take]; rfl)) ?_; (with_reducible refine (crossroadlaw03_fit.calls k  false _ A4.out).mono ?_); rintro e w38 ⟨rfl, hb⟩; (try (have nM_ := Aside0.mk (BodyOwn.below (by repeat (first | exact HOB.out | refine BodyOwn.drewN ?_ | refine BodyOwn.alloc ?_ | refine BodyOwn.drew ?_)) hb); clear HOB; have HOB := nM_; clear nM_)); refine ⟨_, rfl, ?_⟩; have n0_ := Aside0.mk (below_step (by repeat (first | (with_reducible first | exact HB.out | apply below_alloc | apply pw_below_drewN | apply below_drew1) | exact HB.out)) hb); clear HB; have HB := n0_; clear n0_; (try clear hb); (try clear hb2); (try clear hk); (try clear hi)))
    go_ret
    exact ⟨by first | rfl | (simp [errW_none, errW_some] <;> rfl) | (simp [*, errW_none, errW_some] <;> rfl), by repeat (first | (with_reducible first | exact HB.out | apply below_alloc | apply pw_below_drewN | apply below_drew1) | exact HB.out)⟩

/-- THE ONE PURE STATEMENT of crossroadlaw03_BodyChunks: yours. -/
def crossroadlaw03_BodyChunks.Pure : Prop := ∀ (a0 : ByteArray) (a1 : Int) (a2 : ByteArray), a0.size ≤ 140737488351232 → (Lit.int .i64 a1).wf = true → a2.size ≤ 140737488351232 → ∃ k, crossroadlaw03_BodyChunks.f k a0 a1 a2 = some true
theorem crossroadlaw03_BodyChunks.walk (P : crossroadlaw03_BodyChunks.Pure) (a0 : ByteArray) (a1 : Int) (a2 : ByteArray) (w : World) (w0 : a0.size ≤ 140737488351232) (w1 : (Lit.int .i64 a1).wf = true) (w2 : a2.size ≤ 140737488351232) :
    Calls Try.prog 7 #[.string a0, .int .i64 a1, .string a2] w fun e w' => e = .returned (.bool true) ∧ Below w.heap.size w w' := by
  obtain ⟨k, h⟩ := P a0 a1 a2 w0 w1 w2
  refine (crossroadlaw03_BodyChunks.calls k a0 a1 a2 true w h).mono ?_
  rintro e w' ⟨rfl, hd⟩
  exact ⟨rfl, hd⟩

end Go.Proofs.Ytkdmjkoojipofaa.X

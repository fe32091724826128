-- Made smaller by wip/squeeze.py out of this claim's texts. Not trusted: Lean checks it.
import Derived.Test.YtldaingkcnmaoaaDoorX7
namespace Go.Proofs.YtldaingkcnmaoaaDoor.X
open Go.RowKit Go.Proofs.YtldaingkcnmaoaaDoorW.PrintWords Go.Proofs.YtldaingkcnmaoaaDoorW.PrintLast Go.Proofs.YtldaingkcnmaoaaDoorW.PrintMore
attribute [local go_sem] max2_int min2_int max_two min_two max_three min_three max_four min_four
set_option linter.unusedVariables false
set_option linter.unusedSimpArgs false
def ascii_mark.f (a0 : Int) : Option (Bool) := if a0 = 33 then (some true) else (if a0 = 35 then (some true) else (if a0 = 36 then (some true) else (if a0 = 37 then (some true) else (if a0 = 38 then (some true) else (if a0 = 39 then (some true) else (if a0 = 42 then (some true) else (if a0 = 43 then (some true) else (if a0 = 45 then (some true) else (if a0 = 46 then (some true) else (if a0 = 94 then (some true) else (if a0 = 95 then (some true) else (if a0 = 124 then (some true) else (if a0 = 126 then (some true) else (if a0 = 96 then (some true) else ((ascii_letter.f a0).bind fun t109 => (if t109 = true then (some true) else (if a0 ≥ 48 then (some (decide (a0 ≤ 57))) else (some false))))))))))))))))))
set_option maxHeartbeats 8000000 in
set_option maxRecDepth 100000 in
theorem ascii_mark.calls (a0 : Int) (r : Bool) (w : World) (h : ascii_mark.f a0 = some r) :
    Calls Tryd.prog 39 #[.int .u8 a0] w fun e w' => e = .returned (.bool r) ∧ Drawn0 w w' := by
 have H : (if a0 = 33 then (some true) else (if a0 = 35 then (some true) else (if a0 = 36 then (some true) else (if a0 = 37 then (some true) else (if a0 = 38 then (some true) else (if a0 = 39 then (some true) else (if a0 = 42 then (some true) else (if a0 = 43 then (some true) else (if a0 = 45 then (some true) else (if a0 = 46 then (some true) else (if a0 = 94 then (some true) else (if a0 = 95 then (some true) else (if a0 = 124 then (some true) else (if a0 = 126 then (some true) else (if a0 = 96 then (some true) else ((ascii_letter.f a0).bind fun t109 => (if t109 = true then (some true) else (if a0 ≥ 48 then (some (decide (a0 ≤ 57))) else (some false))))))))))))))))))) = some r := h
 clear h
 by_cases c2 : a0 = 33
 · rw [if_pos c2] at H
   have c2b0 : (a0 == 33) = true := beq_iff_eq.mpr c2
   have c2b1 : (a0 != 33) = false := bne_eq_false_iff_eq.mpr c2
   clear c2
   obtain rfl := Option.some.inj H
   go_enter Tryd.func39, Tryd.ntmps39
   go_wp2
   go_ret
   exact ⟨by first | rfl | (simp; done) | (simp [*]; done), by repeat (first | exact Drawn0.refl _ | apply Drawn0.step)⟩
 · rw [if_neg c2] at H
   have c2b0 : (a0 == 33) = false := beq_eq_false_iff_ne.mpr c2
   have c2b1 : (a0 != 33) = true := bne_iff_ne.mpr c2
   by_cases c3 : a0 = 35
   · rw [if_pos c3] at H
     have c3b0 : (a0 == 35) = true := beq_iff_eq.mpr c3
     have c3b1 : (a0 != 35) = false := bne_eq_false_iff_eq.mpr c3
     clear c3
     obtain rfl := Option.some.inj H
     go_enter Tryd.func39, Tryd.ntmps39
     go_wp2
     go_ret
     exact ⟨by first | rfl | (simp; done) | (simp [*]; done), by repeat (first | exact Drawn0.refl _ | apply Drawn0.step)⟩
   · rw [if_neg c3] at H
     have c3b0 : (a0 == 35) = false := beq_eq_false_iff_ne.mpr c3
     have c3b1 : (a0 != 35) = true := bne_iff_ne.mpr c3
     by_cases c4 : a0 = 36
     · rw [if_pos c4] at H
       have c4b0 : (a0 == 36) = true := beq_iff_eq.mpr c4
       have c4b1 : (a0 != 36) = false := bne_eq_false_iff_eq.mpr c4
       clear c4
       obtain rfl := Option.some.inj H
       go_enter Tryd.func39, Tryd.ntmps39
       go_wp2
       go_ret
       exact ⟨by first | rfl | (simp; done) | (simp [*]; done), by repeat (first | exact Drawn0.refl _ | apply Drawn0.step)⟩
     · rw [if_neg c4] at H
       have c4b0 : (a0 == 36) = false := beq_eq_false_iff_ne.mpr c4
       have c4b1 : (a0 != 36) = true := bne_iff_ne.mpr c4
       by_cases c5 : a0 = 37
       · rw [if_pos c5] at H
         have c5b0 : (a0 == 37) = true := beq_iff_eq.mpr c5
         have c5b1 : (a0 != 37) = false := bne_eq_false_iff_eq.mpr c5
         clear c5
         obtain rfl := Option.some.inj H
         go_enter Tryd.func39, Tryd.ntmps39
         go_wp2
         go_ret
         exact ⟨by first | rfl | (simp; done) | (simp [*]; done), by repeat (first | exact Drawn0.refl _ | apply Drawn0.step)⟩
       · rw [if_neg c5] at H
         have c5b0 : (a0 == 37) = false := beq_eq_false_iff_ne.mpr c5
         have c5b1 : (a0 != 37) = true := bne_iff_ne.mpr c5
         by_cases c6 : a0 = 38
         · rw [if_pos c6] at H
           have c6b0 : (a0 == 38) = true := beq_iff_eq.mpr c6
           have c6b1 : (a0 != 38) = false := bne_eq_false_iff_eq.mpr c6
           clear c6
           obtain rfl := Option.some.inj H
           go_enter Tryd.func39, Tryd.ntmps39
           go_wp2
           go_ret
           exact ⟨by first | rfl | (simp; done) | (simp [*]; done), by repeat (first | exact Drawn0.refl _ | apply Drawn0.step)⟩
         · rw [if_neg c6] at H
           have c6b0 : (a0 == 38) = false := beq_eq_false_iff_ne.mpr c6
           have c6b1 : (a0 != 38) = true := bne_iff_ne.mpr c6
           by_cases c7 : a0 = 39
           · rw [if_pos c7] at H
             have c7b0 : (a0 == 39) = true := beq_iff_eq.mpr c7
             have c7b1 : (a0 != 39) = false := bne_eq_false_iff_eq.mpr c7
             clear c7
             obtain rfl := Option.some.inj H
             go_enter Tryd.func39, Tryd.ntmps39
             go_wp2
             go_ret
             exact ⟨by first | rfl | (simp; done) | (simp [*]; done), by repeat (first | exact Drawn0.refl _ | apply Drawn0.step)⟩
           · rw [if_neg c7] at H
             have c7b0 : (a0 == 39) = false := beq_eq_false_iff_ne.mpr c7
             have c7b1 : (a0 != 39) = true := bne_iff_ne.mpr c7
             by_cases c8 : a0 = 42
             · rw [if_pos c8] at H
               have c8b0 : (a0 == 42) = true := beq_iff_eq.mpr c8
               have c8b1 : (a0 != 42) = false := bne_eq_false_iff_eq.mpr c8
               clear c8
               obtain rfl := Option.some.inj H
               go_enter Tryd.func39, Tryd.ntmps39
               go_wp2
               go_ret
               exact ⟨by first | rfl | (simp; done) | (simp [*]; done), by repeat (first | exact Drawn0.refl _ | apply Drawn0.step)⟩
             · rw [if_neg c8] at H
               have c8b0 : (a0 == 42) = false := beq_eq_false_iff_ne.mpr c8
               have c8b1 : (a0 != 42) = true := bne_iff_ne.mpr c8
               by_cases c9 : a0 = 43
               · rw [if_pos c9] at H
                 have c9b0 : (a0 == 43) = true := beq_iff_eq.mpr c9
                 have c9b1 : (a0 != 43) = false := bne_eq_false_iff_eq.mpr c9
                 clear c9
                 obtain rfl := Option.some.inj H
                 go_enter Tryd.func39, Tryd.ntmps39
                 go_wp2
                 go_ret
                 exact ⟨by first | rfl | (simp; done) | (simp [*]; done), by repeat (first | exact Drawn0.refl _ | apply Drawn0.step)⟩
               · rw [if_neg c9] at H
                 have c9b0 : (a0 == 43) = false := beq_eq_false_iff_ne.mpr c9
                 have c9b1 : (a0 != 43) = true := bne_iff_ne.mpr c9
                 by_cases c10 : a0 = 45
                 · rw [if_pos c10] at H
                   have c10b0 : (a0 == 45) = true := beq_iff_eq.mpr c10
                   have c10b1 : (a0 != 45) = false := bne_eq_false_iff_eq.mpr c10
                   clear c10
                   obtain rfl := Option.some.inj H
                   go_enter Tryd.func39, Tryd.ntmps39
                   go_wp2
                   go_ret
                   exact ⟨by first | rfl | (simp; done) | (simp [*]; done), by repeat (first | exact Drawn0.refl _ | apply Drawn0.step)⟩
                 · rw [if_neg c10] at H
                   have c10b0 : (a0 == 45) = false := beq_eq_false_iff_ne.mpr c10
                   have c10b1 : (a0 != 45) = true := bne_iff_ne.mpr c10
                   by_cases c11 : a0 = 46
                   · rw [if_pos c11] at H
                     have c11b0 : (a0 == 46) = true := beq_iff_eq.mpr c11
                     have c11b1 : (a0 != 46) = false := bne_eq_false_iff_eq.mpr c11
                     clear c11
                     obtain rfl := Option.some.inj H
                     go_enter Tryd.func39, Tryd.ntmps39
                     go_wp2
                     go_ret
                     exact ⟨by first | rfl | (simp; done) | (simp [*]; done), by repeat (first | exact Drawn0.refl _ | apply Drawn0.step)⟩
                   · rw [if_neg c11] at H
                     have c11b0 : (a0 == 46) = false := beq_eq_false_iff_ne.mpr c11
                     have c11b1 : (a0 != 46) = true := bne_iff_ne.mpr c11
                     by_cases c12 : a0 = 94
                     · rw [if_pos c12] at H
                       have c12b0 : (a0 == 94) = true := beq_iff_eq.mpr c12
                       have c12b1 : (a0 != 94) = false := bne_eq_false_iff_eq.mpr c12
                       clear c12
                       obtain rfl := Option.some.inj H
                       go_enter Tryd.func39, Tryd.ntmps39
                       go_wp2
                       go_ret
                       exact ⟨by first | rfl | (simp; done) | (simp [*]; done), by repeat (first | exact Drawn0.refl _ | apply Drawn0.step)⟩
                     · rw [if_neg c12] at H
                       have c12b0 : (a0 == 94) = false := beq_eq_false_iff_ne.mpr c12
                       have c12b1 : (a0 != 94) = true := bne_iff_ne.mpr c12
                       by_cases c13 : a0 = 95
                       · rw [if_pos c13] at H
                         have c13b0 : (a0 == 95) = true := beq_iff_eq.mpr c13
                         have c13b1 : (a0 != 95) = false := bne_eq_false_iff_eq.mpr c13
                         clear c13
                         obtain rfl := Option.some.inj H
                         go_enter Tryd.func39, Tryd.ntmps39
                         go_wp2
                         go_ret
                         exact ⟨by first | rfl | (simp; done) | (simp [*]; done), by repeat (first | exact Drawn0.refl _ | apply Drawn0.step)⟩
                       · rw [if_neg c13] at H
                         have c13b0 : (a0 == 95) = false := beq_eq_false_iff_ne.mpr c13
                         have c13b1 : (a0 != 95) = true := bne_iff_ne.mpr c13
                         by_cases c14 : a0 = 124
                         · rw [if_pos c14] at H
                           have c14b0 : (a0 == 124) = true := beq_iff_eq.mpr c14
                           have c14b1 : (a0 != 124) = false := bne_eq_false_iff_eq.mpr c14
                           clear c14
                           obtain rfl := Option.some.inj H
                           go_enter Tryd.func39, Tryd.ntmps39
                           go_wp2
                           go_ret
                           exact ⟨by first | rfl | (simp; done) | (simp [*]; done), by repeat (first | exact Drawn0.refl _ | apply Drawn0.step)⟩
                         · rw [if_neg c14] at H
                           have c14b0 : (a0 == 124) = false := beq_eq_false_iff_ne.mpr c14
                           have c14b1 : (a0 != 124) = true := bne_iff_ne.mpr c14
                           by_cases c15 : a0 = 126
                           · rw [if_pos c15] at H
                             have c15b0 : (a0 == 126) = true := beq_iff_eq.mpr c15
                             have c15b1 : (a0 != 126) = false := bne_eq_false_iff_eq.mpr c15
                             clear c15
                             obtain rfl := Option.some.inj H
                             go_enter Tryd.func39, Tryd.ntmps39
                             go_wp2
                             go_ret
                             exact ⟨by first | rfl | (simp; done) | (simp [*]; done), by repeat (first | exact Drawn0.refl _ | apply Drawn0.step)⟩
                           · rw [if_neg c15] at H
                             have c15b0 : (a0 == 126) = false := beq_eq_false_iff_ne.mpr c15
                             have c15b1 : (a0 != 126) = true := bne_iff_ne.mpr c15
                             by_cases c16 : a0 = 96
                             · rw [if_pos c16] at H
                               have c16b0 : (a0 == 96) = true := beq_iff_eq.mpr c16
                               have c16b1 : (a0 != 96) = false := bne_eq_false_iff_eq.mpr c16
                               clear c16
                               obtain rfl := Option.some.inj H
                               go_enter Tryd.func39, Tryd.ntmps39
                               go_wp2
                               go_ret
                               exact ⟨by first | rfl | (simp; done) | (simp [*]; done), by repeat (first | exact Drawn0.refl _ | apply Drawn0.step)⟩
                             · rw [if_neg c16] at H
                               have c16b0 : (a0 == 96) = false := beq_eq_false_iff_ne.mpr c16
                               have c16b1 : (a0 != 96) = true := bne_iff_ne.mpr c16
                               replace H := Option.bind_eq_some_iff.mp H
                               obtain ⟨t109, A170, H⟩ := H
                               replace H : (if t109 = true then (some true) else (if a0 ≥ 48 then (some (decide (a0 ≤ 57))) else (some false))) = some r := H
                               have A17 := Aside0.mk A170
                               clear A170
                               by_cases c18 : t109 = true
                               · subst c18
                                 have H1 : (some true) = some r := by rw [if_pos rfl] at H; exact H
                                 clear H
                                 have H := H1
                                 clear H1
                                 obtain rfl := Option.some.inj H
                                 go_enter Tryd.func39, Tryd.ntmps39
                                 go_wp2_with (first | ((with_reducible refine gate_callee (f := 44) rfl ?_); refine goesL_ (some 21) rfl rfl Tryd.func44 (by kernel_rfl) rfl #[.int .u8 a0] rfl (by (try simp only [List.map_toArray, List.map_cons, List.map_nil]); first | done | rfl | (simp only [List.length_drop, List.length_take]; rfl)) ?_; (with_reducible refine (ascii_letter.calls a0 true _ A17.out).mono ?_); rintro e w' ⟨rfl, ⟨nd, rfl⟩⟩; refine ⟨_, rfl, ?_⟩))
                                 go_ret
                                 exact ⟨by first | rfl | (simp; done) | (simp [*]; done), by repeat (first | exact Drawn0.refl _ | apply Drawn0.step)⟩
                               · replace c18 := Bool.eq_false_iff.mpr c18
                                 subst c18
                                 have H1 : (if a0 ≥ 48 then (some (decide (a0 ≤ 57))) else (some false)) = some r := by rw [if_neg (show ¬ (false = true) by decide)] at H; exact H
                                 clear H
                                 have H := H1
                                 clear H1
                                 by_cases c19 : a0 ≥ 48
                                 · rw [if_pos c19] at H
                                   have c19b0 : decide (48 ≤ a0) = true := decide_eq_true c19
                                   clear c19
                                   obtain rfl := Option.some.inj H
                                   go_enter Tryd.func39, Tryd.ntmps39
                                   go_wp2_with (first | ((with_reducible refine gate_callee (f := 44) rfl ?_); refine goesL_ (some 21) rfl rfl Tryd.func44 (by kernel_rfl) rfl #[.int .u8 a0] rfl (by (try simp only [List.map_toArray, List.map_cons, List.map_nil]); first | done | rfl | (simp only [List.length_drop, List.length_take]; rfl)) ?_; (with_reducible refine (ascii_letter.calls a0 false _ A17.out).mono ?_); rintro e w' ⟨rfl, ⟨nd, rfl⟩⟩; refine ⟨_, rfl, ?_⟩))
                                   go_ret
                                   exact ⟨by first | rfl | (simp; done) | (simp [*]; done), by repeat (first | exact Drawn0.refl _ | apply Drawn0.step)⟩
                                 · rw [if_neg c19] at H
                                   have c19b0 : decide (48 ≤ a0) = false := decide_eq_false c19
                                   clear c19
                                   obtain rfl := Option.some.inj H
                                   go_enter Tryd.func39, Tryd.ntmps39
                                   go_wp2_with (first | ((with_reducible refine gate_callee (f := 44) rfl ?_); refine goesL_ (some 21) rfl rfl Tryd.func44 (by kernel_rfl) rfl #[.int .u8 a0] rfl (by (try simp only [List.map_toArray, List.map_cons, List.map_nil]); first | done | rfl | (simp only [List.length_drop, List.length_take]; rfl)) ?_; (with_reducible refine (ascii_letter.calls a0 false _ A17.out).mono ?_); rintro e w' ⟨rfl, ⟨nd, rfl⟩⟩; refine ⟨_, rfl, ?_⟩))
                                   go_ret
                                   exact ⟨by first | rfl | (simp; done) | (simp [*]; done), by repeat (first | exact Drawn0.refl _ | apply Drawn0.step)⟩
end Go.Proofs.YtldaingkcnmaoaaDoor.X

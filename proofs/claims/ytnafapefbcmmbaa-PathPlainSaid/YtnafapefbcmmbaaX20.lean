-- Written for this claim by a program of this session (wip/xprint.py). Not trusted: Lean checks it.
import Derived.Test.YtnafapefbcmmbaaX0
import Derived.Test.YtnafapefbcmmbaaX5
import Derived.Test.YtnafapefbcmmbaaX12
import Derived.Test.YtnafapefbcmmbaaX17
namespace Go.Proofs.Ytnafapefbcmmbaa.X
open Go.RowKit Go.Proofs.YtnafapefbcmmbaaW.PrintWords Go.Proofs.YtnafapefbcmmbaaW.PrintLast Go.Proofs.YtnafapefbcmmbaaW.PrintMore
attribute [local go_sem] max2_int min2_int max_two min_two max_three min_three max_four min_four   -- for this text's walks alone
set_option linter.unusedVariables false
set_option linter.unusedSimpArgs false

/-! ### crossroadlaw06_PathPlain: function 8 -/
mutual
def crossroadlaw06_PathPlain.j0 : Nat → List ByteArray → Bool → Option (Bool)
  | 0, _, _ => none
  | k + 1, x0, x18 => if x18 = true then (some true) else (crossroadlaw06_PathPlain.l0 k x0 (⟨#[]⟩ : ByteArray) x0 (x0.length : Int) 0)
def crossroadlaw06_PathPlain.l0 : Nat → List ByteArray → ByteArray → List ByteArray → Int → Int → Option (Bool)
  | 0, _, _, _, _, _ => none
  | k + 1, x0, x3, x19, x20, x21 => if x21 < x20 then (if 0 ≤ x21 then (if x21 < (x19.length : Int) then (if ((rdOf ByteArray.empty x19 x21).size : Int) > 60 then (some true) else (crossroadlaw06_PathPlain.l1 k x0 x3 (rdOf ByteArray.empty x19 x21) x19 x20 x21 ((rdOf ByteArray.empty x19 x21).size : Int) 0)) else (none)) else (none)) else ((path_Split.f k x3).bind fun bt236 => (if x3.toList = ([47] : List UInt8) then (if bt236.2 = true then (some ((bt236.1.length : Int) == 0)) else (some false)) else (if bt236.2 = true then (if (bt236.1.length : Int) = (x0.length : Int) then ((path_Join.f k bt236.1 0).bind fun t240 => (if 1 + t240.size ≤ 9223372036854775807 then (some (((⟨#[47]⟩ : ByteArray) ++ t240).toList == x3.toList)) else (none))) else (some false)) else (some false))))
def crossroadlaw06_PathPlain.l1 : Nat → List ByteArray → ByteArray → ByteArray → List ByteArray → Int → Int → Int → Int → Option (Bool)
  | 0, _, _, _, _, _, _, _, _ => none
  | k + 1, x0, x3, x5, x19, x20, x21, x29, x30 => if x30 < x29 then (if 0 ≤ x30 then (if x30 < (x5.size : Int) then (if (bt x5 x30) = 47 then (some true) else (if (bt x5 x30) = 37 then (some true) else (if (bt x5 x30) = 63 then (some true) else (crossroadlaw06_PathPlain.l1 k x0 x3 x5 x19 x20 x21 x29 (wrap64 (x30 + 1)))))) else (none)) else (none)) else (if 1 + x5.size ≤ 9223372036854775807 then (if x3.size + ((⟨#[47]⟩ : ByteArray) ++ x5).size ≤ 9223372036854775807 then (crossroadlaw06_PathPlain.l0 k x0 (x3 ++ ((⟨#[47]⟩ : ByteArray) ++ x5)) x19 x20 (wrap64 (x21 + 1))) else (none)) else (none))
end
def crossroadlaw06_PathPlain.f (k : Nat) (l0 : List ByteArray) : Option (Bool) := (crossroadlaw06_fit.f k).bind fun t234 => (if t234 = true then (if (l0.length : Int) = 0 then (crossroadlaw06_PathPlain.j0 k l0 true) else (crossroadlaw06_PathPlain.j0 k l0 (decide ((l0.length : Int) > 8)))) else (some false))
theorem crossroadlaw06_PathPlain.mono_l : ∀ k, (∀ y0 y1, LeO (crossroadlaw06_PathPlain.j0 k y0 y1) (crossroadlaw06_PathPlain.j0 (k + 1) y0 y1)) ∧ (∀ y0 y1 y2 y3 y4, LeO (crossroadlaw06_PathPlain.l0 k y0 y1 y2 y3 y4) (crossroadlaw06_PathPlain.l0 (k + 1) y0 y1 y2 y3 y4)) ∧ (∀ y0 y1 y2 y3 y4 y5 y6 y7, LeO (crossroadlaw06_PathPlain.l1 k y0 y1 y2 y3 y4 y5 y6 y7) (crossroadlaw06_PathPlain.l1 (k + 1) y0 y1 y2 y3 y4 y5 y6 y7))
  | 0 => ⟨fun _ _ r h => by simp [crossroadlaw06_PathPlain.j0] at h, fun _ _ _ _ _ r h => by simp [crossroadlaw06_PathPlain.l0] at h, fun _ _ _ _ _ _ _ _ r h => by simp [crossroadlaw06_PathPlain.l1] at h⟩
  | k + 1 => by
    obtain ⟨ih0, ih1, ih2⟩ := crossroadlaw06_PathPlain.mono_l k
    refine ⟨?_, ?_, ?_⟩
    · intro y0 y1
      unfold crossroadlaw06_PathPlain.j0
      repeat' first
      | (with_reducible exact ih0 _ _)
      | (with_reducible exact ih1 _ _ _ _ _)
      | (with_reducible exact ih2 _ _ _ _ _ _ _ _)
      | (with_reducible exact crossroadlaw06_fit.mono _)
      | (with_reducible exact path_Join.mono _ _ _)
      | (with_reducible exact path_Split.mono _ _)
      | (with_reducible exact LeO.refl _)
      | (with_reducible exact LeO.none _)
      | (with_reducible refine LeO.ite ?_ ?_)
      | (with_reducible refine LeO.bind ?_ (fun _ => ?_))
      | exact ih0 _ _
      | exact ih1 _ _ _ _ _
      | exact ih2 _ _ _ _ _ _ _ _
      | exact crossroadlaw06_fit.mono _
      | exact path_Join.mono _ _ _
      | exact path_Split.mono _ _
      | exact LeO.none _
      | refine LeO.ite ?_ ?_
      | refine LeO.bind ?_ (fun _ => ?_)
    · intro y0 y1 y2 y3 y4
      unfold crossroadlaw06_PathPlain.l0
      repeat' first
      | (with_reducible exact ih0 _ _)
      | (with_reducible exact ih1 _ _ _ _ _)
      | (with_reducible exact ih2 _ _ _ _ _ _ _ _)
      | (with_reducible exact crossroadlaw06_fit.mono _)
      | (with_reducible exact path_Join.mono _ _ _)
      | (with_reducible exact path_Split.mono _ _)
      | (with_reducible exact LeO.refl _)
      | (with_reducible exact LeO.none _)
      | (with_reducible refine LeO.ite ?_ ?_)
      | (with_reducible refine LeO.bind ?_ (fun _ => ?_))
      | exact ih0 _ _
      | exact ih1 _ _ _ _ _
      | exact ih2 _ _ _ _ _ _ _ _
      | exact crossroadlaw06_fit.mono _
      | exact path_Join.mono _ _ _
      | exact path_Split.mono _ _
      | exact LeO.none _
      | refine LeO.ite ?_ ?_
      | refine LeO.bind ?_ (fun _ => ?_)
    · intro y0 y1 y2 y3 y4 y5 y6 y7
      unfold crossroadlaw06_PathPlain.l1
      repeat' first
      | (with_reducible exact ih0 _ _)
      | (with_reducible exact ih1 _ _ _ _ _)
      | (with_reducible exact ih2 _ _ _ _ _ _ _ _)
      | (with_reducible exact crossroadlaw06_fit.mono _)
      | (with_reducible exact path_Join.mono _ _ _)
      | (with_reducible exact path_Split.mono _ _)
      | (with_reducible exact LeO.refl _)
      | (with_reducible exact LeO.none _)
      | (with_reducible refine LeO.ite ?_ ?_)
      | (with_reducible refine LeO.bind ?_ (fun _ => ?_))
      | exact ih0 _ _
      | exact ih1 _ _ _ _ _
      | exact ih2 _ _ _ _ _ _ _ _
      | exact crossroadlaw06_fit.mono _
      | exact path_Join.mono _ _ _
      | exact path_Split.mono _ _
      | exact LeO.none _
      | refine LeO.ite ?_ ?_
      | refine LeO.bind ?_ (fun _ => ?_)
theorem crossroadlaw06_PathPlain.mono : ∀ a0 k, LeO (crossroadlaw06_PathPlain.f k a0) (crossroadlaw06_PathPlain.f (k + 1) a0) := by
  intro a0 k
  obtain ⟨ih0, ih1, ih2⟩ := crossroadlaw06_PathPlain.mono_l k
  unfold crossroadlaw06_PathPlain.f
  repeat' first
      | (with_reducible exact ih0 _ _)
      | (with_reducible exact ih1 _ _ _ _ _)
      | (with_reducible exact ih2 _ _ _ _ _ _ _ _)
      | (with_reducible exact crossroadlaw06_fit.mono _)
      | (with_reducible exact path_Join.mono _ _ _)
      | (with_reducible exact path_Split.mono _ _)
      | (with_reducible exact LeO.refl _)
      | (with_reducible exact LeO.none _)
      | (with_reducible refine LeO.ite ?_ ?_)
      | (with_reducible refine LeO.bind ?_ (fun _ => ?_))
      | exact ih0 _ _
      | exact ih1 _ _ _ _ _
      | exact ih2 _ _ _ _ _ _ _ _
      | exact crossroadlaw06_fit.mono _
      | exact path_Join.mono _ _ _
      | exact path_Split.mono _ _
      | exact LeO.none _
      | refine LeO.ite ?_ ?_
      | refine LeO.bind ?_ (fun _ => ?_)
set_option maxHeartbeats 8000000 in
set_option maxRecDepth 100000 in
theorem crossroadlaw06_PathPlain.calls (k : Nat) (A0 : Option Addr) (c0 : Nat) (l0 : List ByteArray) (r : Bool) (w : World) (hr0 : Kd.C Kd.string w A0 l0.length l0) (hc0 : l0.length ≤ c0) (h : crossroadlaw06_PathPlain.f k l0 = some r) :
    Calls Try.prog 8 #[.slice A0 l0.length c0] w fun e w' => e = .returned (.bool r) ∧ Below w.heap.size w w' := by
  have HR0 := Aside0.mk hr0
  have HC0 := Aside0.mk hc0
  clear hr0 hc0
  have HB := Aside0.mk (Below.refl w.heap.size w)
  have H : ((crossroadlaw06_fit.f k).bind fun t234 => (if t234 = true then (if (l0.length : Int) = 0 then (crossroadlaw06_PathPlain.j0 k l0 true) else (crossroadlaw06_PathPlain.j0 k l0 (decide ((l0.length : Int) > 8)))) else (some false))) = some r := h
  clear h
  replace H := Option.bind_eq_some_iff.mp H
  obtain ⟨t234, A20, H⟩ := H
  replace H : (if t234 = true then (if (l0.length : Int) = 0 then (crossroadlaw06_PathPlain.j0 k l0 true) else (crossroadlaw06_PathPlain.j0 k l0 (decide ((l0.length : Int) > 8)))) else (some false)) = some r := H
  have A2 := Aside0.mk A20
  clear A20
  by_cases c3 : t234 = true
  · subst c3
    have H1 : (if (l0.length : Int) = 0 then (crossroadlaw06_PathPlain.j0 k l0 true) else (crossroadlaw06_PathPlain.j0 k l0 (decide ((l0.length : Int) > 8)))) = some r := by rw [if_pos rfl] at H; exact H
    clear H
    have H := H1
    clear H1
    have HC4 := Aside0.mk H
    clear H
    go_enter Try.func8, Try.ntmps8
    go_upto_region 3 with (first | ((with_reducible refine gate_callee (f := 9) rfl ?_); refine goesL_ (some 9) rfl rfl Try.func9 (by kernel_rfl) rfl #[] rfl (by (try simp only [List.map_toArray, List.map_cons, List.map_nil]); first | done | rfl | (simp only [List.length_drop, List.length_take]; rfl)) ?_; (with_reducible refine (crossroadlaw06_fit.calls k  true _ A2.out).mono ?_); rintro e w5 ⟨rfl, hb⟩; refine ⟨_, rfl, ?_⟩; have n0_ := Aside0.mk (below_step (by repeat (first | (with_reducible first | exact HB.out | apply below_alloc | apply pw_below_drewN | apply below_drew1) | exact HB.out)) hb); clear HB; have HB := n0_; clear n0_; (try clear hb); (try clear hb2); (try clear hk); (try clear hi)))
    (try simp only [Act.put, List.setIfInBounds_toArray, List.set_cons_zero, List.set_cons_succ])
    go_cut [18] (fun v18 wc => ∃ (kq : Nat) (x18_3 : Bool), v18 = .bool x18_3 ∧ Aside0 (crossroadlaw06_PathPlain.j0 kq l0 x18_3 = some r) ∧ Aside0 (kq ≤ k) ∧ Aside0 (Below w.heap.size w wc))
    case first =>
      have H := HC4.out
      clear HC4
      by_cases c6 : (l0.length : Int) = 0
      · rw [if_pos c6] at H
        have c6b0 : ((l0.length : Int) == 0) = true := beq_iff_eq.mpr c6
        have c6b1 : ((l0.length : Int) != 0) = false := bne_eq_false_iff_eq.mpr c6
        clear c6
        (first | rw [c6b0] | (simp only [i64_w, i32_w]; rw [c6b0]) | skip)
        have H' := Aside0.mk H
        clear H
        go_wp2
        go_meet
        case rel => exact ⟨_, (true), (by first | rfl | (simp; done) | (simp [*]; done)), H', ⟨by first | omega | exact Nat.le_refl _⟩, ⟨by repeat (first | (with_reducible first | exact HB.out | apply below_alloc | apply pw_below_drewN | apply below_drew1) | exact HB.out)⟩⟩
      · rw [if_neg c6] at H
        have c6b0 : ((l0.length : Int) == 0) = false := beq_eq_false_iff_ne.mpr c6
        have c6b1 : ((l0.length : Int) != 0) = true := bne_iff_ne.mpr c6
        have c6b2 : ¬ (l0 = []) := fun h_ => c6 (by rw [h_]; rfl)
        (first | rw [c6b0] | (simp only [i64_w, i32_w]; rw [c6b0]) | skip)
        have H' := Aside0.mk H
        clear H
        go_wp2
        go_meet
        case rel => exact ⟨_, (decide ((l0.length : Int) > 8)), (by first | rfl | (simp; done) | (simp [*]; done)), H', ⟨by first | omega | exact Nat.le_refl _⟩, ⟨by repeat (first | (with_reducible first | exact HB.out | apply below_alloc | apply pw_below_drewN | apply below_drew1) | exact HB.out)⟩⟩
    case rest =>
      clear HC4
      try clear p2
      try clear c3
      try clear c6
      try clear c6b0
      try clear c6b1
      try clear c6b2
      obtain ⟨kq, x18_3, rfl, HA, HJ3, HB⟩ := hcut
      cases kq with
      | zero => exact absurd HA.out (by simp [crossroadlaw06_PathPlain.j0])
      | succ kj3 =>
        have H := HA.out
        clear HA
        simp only [crossroadlaw06_PathPlain.j0] at H
        by_cases c7 : x18_3 = true
        · subst c7
          have H1 : (some true) = some r := by rw [if_pos rfl] at H; exact H
          clear H
          have H := H1
          clear H1
          obtain rfl := Option.some.inj H
          go_wp2
          go_ret
          exact ⟨by first | rfl | (simp [errW_none, errW_some] <;> rfl) | (simp [*, errW_none, errW_some] <;> rfl), by repeat (first | (with_reducible first | exact HB.out | apply below_alloc | apply pw_below_drewN | apply below_drew1) | exact HB.out)⟩
        · replace c7 := Bool.eq_false_iff.mpr c7
          subst c7
          have H1 : (crossroadlaw06_PathPlain.l0 kj3 l0 (⟨#[]⟩ : ByteArray) l0 (l0.length : Int) 0) = some r := by rw [if_neg (show ¬ (false = true) by decide)] at H; exact H
          clear H
          have H := H1
          clear H1
          have H' := Aside0.mk H
          clear H
          go_wp2
          go_loopg [3, 21] kj3 (fun kq v3 v21 w' => ∃ (x3_2 : ByteArray) (x21_2 : Int), v3 = .string x3_2 ∧ v21 = .int .i64 x21_2 ∧ Aside0 (crossroadlaw06_PathPlain.l0 kq l0 x3_2 l0 (l0.length : Int) x21_2 = some r) ∧ Aside0 (kq ≤ kj3) ∧ Aside0 (Below w.heap.size w w'))
          case atStart => exact ⟨((⟨#[]⟩ : ByteArray)), (0), (by first | rfl | (simp; done) | (simp [*]; done)), (by first | rfl | (simp; done) | (simp [*]; done)), H', ⟨Nat.le_refl _⟩, ⟨by repeat (first | (with_reducible first | exact HB.out | apply below_alloc | apply pw_below_drewN | apply below_drew1) | exact HB.out)⟩⟩
          case round =>
            clear H'
            try clear p2
            try clear c3
            try clear c6
            try clear c6b0
            try clear c6b1
            try clear c6b2
            try clear c7
            try clear p2
            obtain ⟨x3_2, x21_2, rfl, rfl, HA, HK2, HB⟩ := hrel
            cases gk with
            | zero => exact absurd HA.out (by simp [crossroadlaw06_PathPlain.l0])
            | succ k2 =>
              have H := HA.out
              clear HA
              simp only [crossroadlaw06_PathPlain.l0] at H
              by_cases c8 : x21_2 < (l0.length : Int)
              · rw [if_pos c8] at H
                have c8b0 : decide (x21_2 < (l0.length : Int)) = true := decide_eq_true c8
                clear c8
                by_cases c9 : 0 ≤ x21_2
                · rw [if_pos c9] at H
                  have c9b0 : decide (0 ≤ x21_2) = true := decide_eq_true c9
                  clear c9
                  by_cases c10 : x21_2 < (l0.length : Int)
                  · rw [if_pos c10] at H
                    have c10b0 : decide (x21_2 < (l0.length : Int)) = true := decide_eq_true c10
                    clear c10
                    by_cases c11 : ((rdOf ByteArray.empty l0 x21_2).size : Int) > 60
                    · rw [if_pos c11] at H
                      have c11b0 : decide (60 < ((rdOf ByteArray.empty l0 x21_2).size : Int)) = true := decide_eq_true c11
                      have c11b1 : decide (60 < (rdOf ByteArray.empty l0 x21_2).size) = true := decide_eq_true (by omega)
                      clear c11
                      obtain rfl := Option.some.inj H
                      have p235 : 0 ≤ (x21_2 : Int) := of_decide_eq_true (by first | (with_reducible assumption) | assumption)
                      have q235 : x21_2 < (l0.length : Int) := of_decide_eq_true (by first | (with_reducible assumption) | assumption)
                      obtain ⟨ad235, e235, hx235_0⟩ := Kd.at_string HR0.out x21_2 p235 q235
                      cases e235
                      replace hx235_0 := (HB.out.cell (World.block_lt_of_cell? w _ hx235_0)).trans hx235_0
                      replace p235 := eq_true p235
                      replace q235 := eq_true q235
                      go_wp2
                      go_ret
                      exact ⟨by first | rfl | (simp [errW_none, errW_some] <;> rfl) | (simp [*, errW_none, errW_some] <;> rfl), by repeat (first | (with_reducible first | exact HB.out | apply below_alloc | apply pw_below_drewN | apply below_drew1) | exact HB.out)⟩
                    · rw [if_neg c11] at H
                      have c11b0 : decide (60 < ((rdOf ByteArray.empty l0 x21_2).size : Int)) = false := decide_eq_false c11
                      have c11b1 : decide (60 < (rdOf ByteArray.empty l0 x21_2).size) = false := decide_eq_false (by omega)
                      clear c11
                      have H' := Aside0.mk H
                      clear H
                      have p235 : 0 ≤ (x21_2 : Int) := of_decide_eq_true (by first | (with_reducible assumption) | assumption)
                      have q235 : x21_2 < (l0.length : Int) := of_decide_eq_true (by first | (with_reducible assumption) | assumption)
                      obtain ⟨ad235, e235, hx235_0⟩ := Kd.at_string HR0.out x21_2 p235 q235
                      cases e235
                      replace hx235_0 := (HB.out.cell (World.block_lt_of_cell? w _ hx235_0)).trans hx235_0
                      replace p235 := eq_true p235
                      replace q235 := eq_true q235
                      go_wp2
                      go_loopg [30] k2 (fun kq v30 w' => ∃ (x30_3 : Int), v30 = .int .i64 x30_3 ∧ Aside0 (crossroadlaw06_PathPlain.l1 kq l0 x3_2 (rdOf ByteArray.empty l0 x21_2) l0 (l0.length : Int) x21_2 ((rdOf ByteArray.empty l0 x21_2).size : Int) x30_3 = some r) ∧ Aside0 (kq ≤ k2) ∧ Aside0 (Below w.heap.size w w'))
                      case atStart => exact ⟨(0), (by first | rfl | (simp; done) | (simp [*]; done)), H', ⟨Nat.le_refl _⟩, ⟨by repeat (first | (with_reducible first | exact HB.out | apply below_alloc | apply pw_below_drewN | apply below_drew1) | exact HB.out)⟩⟩
                      case round =>
                        clear H'
                        try clear c1
                        try clear p2
                        try clear q2
                        try clear hx2
                        try clear c3
                        try clear c6
                        try clear c6b0
                        try clear c6b1
                        try clear c6b2
                        try clear c7
                        try clear c8
                        try clear c8b0
                        try clear c9
                        try clear c9b0
                        try clear c10
                        try clear c10b0
                        try clear c11
                        try clear c11b0
                        try clear c11b1
                        try clear hx235_0
                        try clear p2
                        try clear p235
                        try clear q235
                        obtain ⟨x30_3, rfl, HA, HK3, HB⟩ := hrel
                        cases gk with
                        | zero => exact absurd HA.out (by simp [crossroadlaw06_PathPlain.l1])
                        | succ k3 =>
                          have H := HA.out
                          clear HA
                          simp only [crossroadlaw06_PathPlain.l1] at H
                          by_cases c12 : x30_3 < ((rdOf ByteArray.empty l0 x21_2).size : Int)
                          · rw [if_pos c12] at H
                            have c12b0 : decide (x30_3 < ((rdOf ByteArray.empty l0 x21_2).size : Int)) = true := decide_eq_true c12
                            clear c12
                            by_cases c13 : 0 ≤ x30_3
                            · rw [if_pos c13] at H
                              have c13b0 : decide (0 ≤ x30_3) = true := decide_eq_true c13
                              clear c13
                              by_cases c14 : x30_3 < ((rdOf ByteArray.empty l0 x21_2).size : Int)
                              · rw [if_pos c14] at H
                                have c14b0 : decide (x30_3 < ((rdOf ByteArray.empty l0 x21_2).size : Int)) = true := decide_eq_true c14
                                clear c14
                                by_cases c16 : (bt (rdOf ByteArray.empty l0 x21_2) x30_3) = 47
                                · rw [if_pos c16] at H
                                  have c16b0 : ((bt (rdOf ByteArray.empty l0 x21_2) x30_3) == 47) = true := beq_iff_eq.mpr c16
                                  have c16b1 : ((bt (rdOf ByteArray.empty l0 x21_2) x30_3) != 47) = false := bne_eq_false_iff_eq.mpr c16
                                  clear c16
                                  obtain rfl := Option.some.inj H
                                  have p15 : 0 ≤ (x30_3 : Int) := of_decide_eq_true (by first | (with_reducible assumption) | assumption)
                                  have q15 : x30_3 < ((rdOf ByteArray.empty l0 x21_2).size : Int) := of_decide_eq_true (by first | (with_reducible assumption) | assumption)
                                  have hx15 := bt_at (rdOf ByteArray.empty l0 x21_2) x30_3
                                  replace p15 := eq_true p15
                                  replace q15 := eq_true q15
                                  go_wp2
                                  go_ret
                                  exact ⟨by first | rfl | (simp [errW_none, errW_some] <;> rfl) | (simp [*, errW_none, errW_some] <;> rfl), by repeat (first | (with_reducible first | exact HB.out | apply below_alloc | apply pw_below_drewN | apply below_drew1) | exact HB.out)⟩
                                · rw [if_neg c16] at H
                                  have c16b0 : ((bt (rdOf ByteArray.empty l0 x21_2) x30_3) == 47) = false := beq_eq_false_iff_ne.mpr c16
                                  have c16b1 : ((bt (rdOf ByteArray.empty l0 x21_2) x30_3) != 47) = true := bne_iff_ne.mpr c16
                                  by_cases c18 : (bt (rdOf ByteArray.empty l0 x21_2) x30_3) = 37
                                  · rw [if_pos c18] at H
                                    have c18b0 : ((bt (rdOf ByteArray.empty l0 x21_2) x30_3) == 37) = true := beq_iff_eq.mpr c18
                                    have c18b1 : ((bt (rdOf ByteArray.empty l0 x21_2) x30_3) != 37) = false := bne_eq_false_iff_eq.mpr c18
                                    clear c18
                                    obtain rfl := Option.some.inj H
                                    have p15 : 0 ≤ (x30_3 : Int) := of_decide_eq_true (by first | (with_reducible assumption) | assumption)
                                    have q15 : x30_3 < ((rdOf ByteArray.empty l0 x21_2).size : Int) := of_decide_eq_true (by first | (with_reducible assumption) | assumption)
                                    have hx15 := bt_at (rdOf ByteArray.empty l0 x21_2) x30_3
                                    replace p15 := eq_true p15
                                    replace q15 := eq_true q15
                                    have p17 : 0 ≤ (x30_3 : Int) := of_decide_eq_true (by first | (with_reducible assumption) | assumption)
                                    have q17 : x30_3 < ((rdOf ByteArray.empty l0 x21_2).size : Int) := of_decide_eq_true (by first | (with_reducible assumption) | assumption)
                                    have hx17 := bt_at (rdOf ByteArray.empty l0 x21_2) x30_3
                                    replace p17 := eq_true p17
                                    replace q17 := eq_true q17
                                    go_wp2
                                    go_ret
                                    exact ⟨by first | rfl | (simp [errW_none, errW_some] <;> rfl) | (simp [*, errW_none, errW_some] <;> rfl), by repeat (first | (with_reducible first | exact HB.out | apply below_alloc | apply pw_below_drewN | apply below_drew1) | exact HB.out)⟩
                                  · rw [if_neg c18] at H
                                    have c18b0 : ((bt (rdOf ByteArray.empty l0 x21_2) x30_3) == 37) = false := beq_eq_false_iff_ne.mpr c18
                                    have c18b1 : ((bt (rdOf ByteArray.empty l0 x21_2) x30_3) != 37) = true := bne_iff_ne.mpr c18
                                    by_cases c20 : (bt (rdOf ByteArray.empty l0 x21_2) x30_3) = 63
                                    · rw [if_pos c20] at H
                                      have c20b0 : ((bt (rdOf ByteArray.empty l0 x21_2) x30_3) == 63) = true := beq_iff_eq.mpr c20
                                      have c20b1 : ((bt (rdOf ByteArray.empty l0 x21_2) x30_3) != 63) = false := bne_eq_false_iff_eq.mpr c20
                                      clear c20
                                      obtain rfl := Option.some.inj H
                                      have p15 : 0 ≤ (x30_3 : Int) := of_decide_eq_true (by first | (with_reducible assumption) | assumption)
                                      have q15 : x30_3 < ((rdOf ByteArray.empty l0 x21_2).size : Int) := of_decide_eq_true (by first | (with_reducible assumption) | assumption)
                                      have hx15 := bt_at (rdOf ByteArray.empty l0 x21_2) x30_3
                                      replace p15 := eq_true p15
                                      replace q15 := eq_true q15
                                      have p17 : 0 ≤ (x30_3 : Int) := of_decide_eq_true (by first | (with_reducible assumption) | assumption)
                                      have q17 : x30_3 < ((rdOf ByteArray.empty l0 x21_2).size : Int) := of_decide_eq_true (by first | (with_reducible assumption) | assumption)
                                      have hx17 := bt_at (rdOf ByteArray.empty l0 x21_2) x30_3
                                      replace p17 := eq_true p17
                                      replace q17 := eq_true q17
                                      have p19 : 0 ≤ (x30_3 : Int) := of_decide_eq_true (by first | (with_reducible assumption) | assumption)
                                      have q19 : x30_3 < ((rdOf ByteArray.empty l0 x21_2).size : Int) := of_decide_eq_true (by first | (with_reducible assumption) | assumption)
                                      have hx19 := bt_at (rdOf ByteArray.empty l0 x21_2) x30_3
                                      replace p19 := eq_true p19
                                      replace q19 := eq_true q19
                                      go_wp2
                                      go_ret
                                      exact ⟨by first | rfl | (simp [errW_none, errW_some] <;> rfl) | (simp [*, errW_none, errW_some] <;> rfl), by repeat (first | (with_reducible first | exact HB.out | apply below_alloc | apply pw_below_drewN | apply below_drew1) | exact HB.out)⟩
                                    · rw [if_neg c20] at H
                                      have c20b0 : ((bt (rdOf ByteArray.empty l0 x21_2) x30_3) == 63) = false := beq_eq_false_iff_ne.mpr c20
                                      have c20b1 : ((bt (rdOf ByteArray.empty l0 x21_2) x30_3) != 63) = true := bne_iff_ne.mpr c20
                                      have H' := Aside0.mk H
                                      clear H
                                      have p15 : 0 ≤ (x30_3 : Int) := of_decide_eq_true (by first | (with_reducible assumption) | assumption)
                                      have q15 : x30_3 < ((rdOf ByteArray.empty l0 x21_2).size : Int) := of_decide_eq_true (by first | (with_reducible assumption) | assumption)
                                      have hx15 := bt_at (rdOf ByteArray.empty l0 x21_2) x30_3
                                      replace p15 := eq_true p15
                                      replace q15 := eq_true q15
                                      have p17 : 0 ≤ (x30_3 : Int) := of_decide_eq_true (by first | (with_reducible assumption) | assumption)
                                      have q17 : x30_3 < ((rdOf ByteArray.empty l0 x21_2).size : Int) := of_decide_eq_true (by first | (with_reducible assumption) | assumption)
                                      have hx17 := bt_at (rdOf ByteArray.empty l0 x21_2) x30_3
                                      replace p17 := eq_true p17
                                      replace q17 := eq_true q17
                                      have p19 : 0 ≤ (x30_3 : Int) := of_decide_eq_true (by first | (with_reducible assumption) | assumption)
                                      have q19 : x30_3 < ((rdOf ByteArray.empty l0 x21_2).size : Int) := of_decide_eq_true (by first | (with_reducible assumption) | assumption)
                                      have hx19 := bt_at (rdOf ByteArray.empty l0 x21_2) x30_3
                                      replace p19 := eq_true p19
                                      replace q19 := eq_true q19
                                      go_wp2
                                      go_roundg k3
                                      case measure => have := HJ3.out; have := HK2.out; have := HK3.out; omega
                                      case rel => exact ⟨(wrap64 (x30_3 + 1)), (by first | rfl | (simp; done) | (simp [*]; done)), H', ⟨by have := HJ3.out; have := HK2.out; have := HK3.out; omega⟩, ⟨by repeat (first | (with_reducible first | exact HB.out | apply below_alloc | apply pw_below_drewN | apply below_drew1) | exact HB.out)⟩⟩
                              · rw [if_neg c14] at H
                                exact absurd H (by simp)
                            · rw [if_neg c13] at H
                              exact absurd H (by simp)
                          · rw [if_neg c12] at H
                            have c12b0 : decide (x30_3 < ((rdOf ByteArray.empty l0 x21_2).size : Int)) = false := decide_eq_false c12
                            clear c12
                            by_cases c21 : 1 + (rdOf ByteArray.empty l0 x21_2).size ≤ 9223372036854775807
                            · rw [if_pos c21] at H
                              have c21b0 := eq_true c21
                              have c21b1 : decide (1 + (rdOf ByteArray.empty l0 x21_2).size ≤ 9223372036854775807) = true := decide_eq_true c21
                              try have c21b2 : (9223372036854775807 < 1 + (rdOf ByteArray.empty l0 x21_2).size) = False := eq_false (Nat.not_lt.2 c21)
                              by_cases c22 : x3_2.size + ((⟨#[47]⟩ : ByteArray) ++ (rdOf ByteArray.empty l0 x21_2)).size ≤ 9223372036854775807
                              · rw [if_pos c22] at H
                                have c22b0 := eq_true c22
                                have c22b1 : decide (x3_2.size + ((⟨#[47]⟩ : ByteArray) ++ (rdOf ByteArray.empty l0 x21_2)).size ≤ 9223372036854775807) = true := decide_eq_true c22
                                try have c22b2 : (9223372036854775807 < x3_2.size + ((⟨#[47]⟩ : ByteArray) ++ (rdOf ByteArray.empty l0 x21_2)).size) = False := eq_false (Nat.not_lt.2 c22)
                                try have c22b3 : (9223372036854775807 < x3_2.size + 1 + (rdOf ByteArray.empty l0 x21_2).size) = False := eq_false (by have h_ := c22; simp only [ByteArray.size_append] at h_; have e0_ : (⟨#[47]⟩ : ByteArray).size = 1 := rfl; omega)
                                have H' := Aside0.mk H
                                clear H
                                go_wp2
                                go_roundg k3
                                case measure => have := HJ3.out; have := HK2.out; have := HK3.out; omega
                                case rel => exact ⟨(x3_2 ++ ((⟨#[47]⟩ : ByteArray) ++ (rdOf ByteArray.empty l0 x21_2))), (wrap64 (x21_2 + 1)), (by first | rfl | (simp; done) | (simp [*]; done)), (by first | rfl | (simp; done) | (simp [*]; done)), H', ⟨by have := HJ3.out; have := HK2.out; have := HK3.out; omega⟩, ⟨by repeat (first | (with_reducible first | exact HB.out | apply below_alloc | apply pw_below_drewN | apply below_drew1) | exact HB.out)⟩⟩
                              · rw [if_neg c22] at H
                                exact absurd H (by simp)
                            · rw [if_neg c21] at H
                              exact absurd H (by simp)
                  · rw [if_neg c10] at H
                    exact absurd H (by simp)
                · rw [if_neg c9] at H
                  exact absurd H (by simp)
              · rw [if_neg c8] at H
                have c8b0 : decide (x21_2 < (l0.length : Int)) = false := decide_eq_false c8
                clear c8
                replace H := Option.bind_eq_some_iff.mp H
                obtain ⟨⟨t236, t237⟩, A230, H⟩ := H
                replace H : (if x3_2.toList = ([47] : List UInt8) then (if t237 = true then (some ((t236.length : Int) == 0)) else (some false)) else (if t237 = true then (if (t236.length : Int) = (l0.length : Int) then ((path_Join.f k2 t236 0).bind fun t240 => (if 1 + t240.size ≤ 9223372036854775807 then (some (((⟨#[47]⟩ : ByteArray) ++ t240).toList == x3_2.toList)) else (none))) else (some false)) else (some false))) = some r := H
                have A23 := Aside0.mk A230
                clear A230
                by_cases c24 : x3_2.toList = ([47] : List UInt8)
                · rw [if_pos c24] at H
                  have c24b0 : (x3_2.toList == ([47] : List UInt8)) = true := beq_iff_eq.mpr c24
                  have c24b1 : (x3_2.toList != ([47] : List UInt8)) = false := bne_eq_false_iff_eq.mpr c24
                  clear c24
                  by_cases c25 : t237 = true
                  · subst c25
                    have H1 : (some ((t236.length : Int) == 0)) = some r := by rw [if_pos rfl] at H; exact H
                    clear H
                    have H := H1
                    clear H1
                    obtain rfl := Option.some.inj H
                    go_wp2_with (first | ((with_reducible refine gate_callee (f := 12) rfl ?_); refine goesL_ (some 57) rfl rfl Try.func12 (by kernel_rfl) rfl #[.string x3_2] rfl (by (try simp only [List.map_toArray, List.map_cons, List.map_nil]); first | done | rfl | (simp only [List.length_drop, List.length_take]; rfl)) ?_; (with_reducible refine (path_Split.calls k2 x3_2 t236 true _ A23.out).mono ?_); rintro e w26 ⟨v238, rfl, ho0, hb⟩; refine ⟨_, rfl, ?_⟩; have n0_ := Aside0.mk (Kd.R_lower ho0 (below_size (by repeat (first | (with_reducible first | exact HB.out | apply below_alloc | apply pw_below_drewN | apply below_drew1) | exact HB.out)))); have n1_ := Aside0.mk (below_step (by repeat (first | (with_reducible first | exact HB.out | apply below_alloc | apply pw_below_drewN | apply below_drew1) | exact HB.out)) hb); clear HB; have HO239 := n0_; have HB := n1_; clear n0_ n1_; (try clear hb); (try clear hb2); (try clear hk); (try clear hi); (try clear ho0); obtain ⟨Ao27, co27, eo27⟩ := Kd.R_slice HO239.out; subst eo27))
                    go_ret
                    exact ⟨by first | rfl | (simp [errW_none, errW_some] <;> rfl) | (simp [*, errW_none, errW_some] <;> rfl), by repeat (first | (with_reducible first | exact HB.out | apply below_alloc | apply pw_below_drewN | apply below_drew1) | exact HB.out)⟩
                  · replace c25 := Bool.eq_false_iff.mpr c25
                    subst c25
                    have H1 : (some false) = some r := by rw [if_neg (show ¬ (false = true) by decide)] at H; exact H
                    clear H
                    have H := H1
                    clear H1
                    obtain rfl := Option.some.inj H
                    go_wp2_with (first | ((with_reducible refine gate_callee (f := 12) rfl ?_); refine goesL_ (some 57) rfl rfl Try.func12 (by kernel_rfl) rfl #[.string x3_2] rfl (by (try simp only [List.map_toArray, List.map_cons, List.map_nil]); first | done | rfl | (simp only [List.length_drop, List.length_take]; rfl)) ?_; (with_reducible refine (path_Split.calls k2 x3_2 t236 false _ A23.out).mono ?_); rintro e w28 ⟨v238, rfl, ho0, hb⟩; refine ⟨_, rfl, ?_⟩; have n0_ := Aside0.mk (Kd.R_lower ho0 (below_size (by repeat (first | (with_reducible first | exact HB.out | apply below_alloc | apply pw_below_drewN | apply below_drew1) | exact HB.out)))); have n1_ := Aside0.mk (below_step (by repeat (first | (with_reducible first | exact HB.out | apply below_alloc | apply pw_below_drewN | apply below_drew1) | exact HB.out)) hb); clear HB; have HO239 := n0_; have HB := n1_; clear n0_ n1_; (try clear hb); (try clear hb2); (try clear hk); (try clear hi); (try clear ho0)))
                    go_ret
                    exact ⟨by first | rfl | (simp [errW_none, errW_some] <;> rfl) | (simp [*, errW_none, errW_some] <;> rfl), by repeat (first | (with_reducible first | exact HB.out | apply below_alloc | apply pw_below_drewN | apply below_drew1) | exact HB.out)⟩
                · rw [if_neg c24] at H
                  have c24b0 : (x3_2.toList == ([47] : List UInt8)) = false := beq_eq_false_iff_ne.mpr c24
                  have c24b1 : (x3_2.toList != ([47] : List UInt8)) = true := bne_iff_ne.mpr c24
                  by_cases c29 : t237 = true
                  · subst c29
                    have H1 : (if (t236.length : Int) = (l0.length : Int) then ((path_Join.f k2 t236 0).bind fun t240 => (if 1 + t240.size ≤ 9223372036854775807 then (some (((⟨#[47]⟩ : ByteArray) ++ t240).toList == x3_2.toList)) else (none))) else (some false)) = some r := by rw [if_pos rfl] at H; exact H
                    clear H
                    have H := H1
                    clear H1
                    by_cases c30 : (t236.length : Int) = (l0.length : Int)
                    · rw [if_pos c30] at H
                      have c30b0 : ((t236.length : Int) == (l0.length : Int)) = true := beq_iff_eq.mpr c30
                      have c30b1 : ((t236.length : Int) != (l0.length : Int)) = false := bne_eq_false_iff_eq.mpr c30
                      have c30b2 : (t236.length == l0.length) = true := by first | simpa using c30 | (simp at c30 ⊢; omega)
                      clear c30
                      replace H := Option.bind_eq_some_iff.mp H
                      obtain ⟨t240, A310, H⟩ := H
                      replace H : (if 1 + t240.size ≤ 9223372036854775807 then (some (((⟨#[47]⟩ : ByteArray) ++ t240).toList == x3_2.toList)) else (none)) = some r := H
                      have A31 := Aside0.mk A310
                      clear A310
                      by_cases c32 : 1 + t240.size ≤ 9223372036854775807
                      · rw [if_pos c32] at H
                        have c32b0 := eq_true c32
                        have c32b1 : decide (1 + t240.size ≤ 9223372036854775807) = true := decide_eq_true c32
                        try have c32b2 : (9223372036854775807 < 1 + t240.size) = False := eq_false (Nat.not_lt.2 c32)
                        obtain rfl := Option.some.inj H
                        go_wp2_with (first | ((with_reducible refine gate_callee (f := 12) rfl ?_); refine goesL_ (some 57) rfl rfl Try.func12 (by kernel_rfl) rfl #[.string x3_2] rfl (by (try simp only [List.map_toArray, List.map_cons, List.map_nil]); first | done | rfl | (simp only [List.length_drop, List.length_take]; rfl)) ?_; (with_reducible refine (path_Split.calls k2 x3_2 t236 true _ A23.out).mono ?_); rintro e w33 ⟨v238, rfl, ho0, hb⟩; refine ⟨_, rfl, ?_⟩; have n0_ := Aside0.mk (Kd.R_lower ho0 (below_size (by repeat (first | (with_reducible first | exact HB.out | apply below_alloc | apply pw_below_drewN | apply below_drew1) | exact HB.out)))); have n1_ := Aside0.mk (below_step (by repeat (first | (with_reducible first | exact HB.out | apply below_alloc | apply pw_below_drewN | apply below_drew1) | exact HB.out)) hb); clear HB; have HO239 := n0_; have HB := n1_; clear n0_ n1_; (try clear hb); (try clear hb2); (try clear hk); (try clear hi); (try clear ho0); obtain ⟨Ao34, co34, eo34⟩ := Kd.R_slice HO239.out; subst eo34) | (go_at_call 18; (with_reducible refine (path_Join.calls k2 _ _ t236 0 t240 _ ?side1 ?side2 A31.out).mono ?_); (case side1 => repeat (first | exact (Kd.R_reads' HO239.out).2.2 | (with_reducible refine Kd.C_alloc ?_ _) | (with_reducible refine Kd.C_drewN ?_ _) | (with_reducible refine Kd.C_drew ?_))); (case side2 => exact (Kd.R_reads' HO239.out).2.1); rintro e w35 ⟨rfl, hb⟩; have n0_ := Aside0.mk (Kd.R_below (by (with_reducible repeat (first | apply Kd.R_alloc | apply Kd.R_drewN | apply Kd.R_drew)); exact HO239.out) hb); have n1_ := Aside0.mk (below_step (by repeat (first | (with_reducible first | exact HB.out | apply below_alloc | apply pw_below_drewN | apply below_drew1) | exact HB.out)) hb); clear HO239; clear HB; have HO239 := n0_; have HB := n1_; clear n0_ n1_; (try clear hb); (try clear hb2); (try clear hk); (try clear hi)))
                        go_ret
                        exact ⟨by first | rfl | (simp [errW_none, errW_some] <;> rfl) | (simp [*, errW_none, errW_some] <;> rfl), by repeat (first | (with_reducible first | exact HB.out | apply below_alloc | apply pw_below_drewN | apply below_drew1) | exact HB.out)⟩
                      · rw [if_neg c32] at H
                        exact absurd H (by simp)
                    · rw [if_neg c30] at H
                      have c30b0 : ((t236.length : Int) == (l0.length : Int)) = false := beq_eq_false_iff_ne.mpr c30
                      have c30b1 : ((t236.length : Int) != (l0.length : Int)) = true := bne_iff_ne.mpr c30
                      have c30b2 : (t236.length == l0.length) = false := by first | simpa using c30 | (simp at c30 ⊢; omega)
                      obtain rfl := Option.some.inj H
                      go_wp2_with (first | ((with_reducible refine gate_callee (f := 12) rfl ?_); refine goesL_ (some 57) rfl rfl Try.func12 (by kernel_rfl) rfl #[.string x3_2] rfl (by (try simp only [List.map_toArray, List.map_cons, List.map_nil]); first | done | rfl | (simp only [List.length_drop, List.length_take]; rfl)) ?_; (with_reducible refine (path_Split.calls k2 x3_2 t236 true _ A23.out).mono ?_); rintro e w36 ⟨v238, rfl, ho0, hb⟩; refine ⟨_, rfl, ?_⟩; have n0_ := Aside0.mk (Kd.R_lower ho0 (below_size (by repeat (first | (with_reducible first | exact HB.out | apply below_alloc | apply pw_below_drewN | apply below_drew1) | exact HB.out)))); have n1_ := Aside0.mk (below_step (by repeat (first | (with_reducible first | exact HB.out | apply below_alloc | apply pw_below_drewN | apply below_drew1) | exact HB.out)) hb); clear HB; have HO239 := n0_; have HB := n1_; clear n0_ n1_; (try clear hb); (try clear hb2); (try clear hk); (try clear hi); (try clear ho0); obtain ⟨Ao37, co37, eo37⟩ := Kd.R_slice HO239.out; subst eo37))
                      go_ret
                      exact ⟨by first | rfl | (simp [errW_none, errW_some] <;> rfl) | (simp [*, errW_none, errW_some] <;> rfl), by repeat (first | (with_reducible first | exact HB.out | apply below_alloc | apply pw_below_drewN | apply below_drew1) | exact HB.out)⟩
                  · replace c29 := Bool.eq_false_iff.mpr c29
                    subst c29
                    have H1 : (some false) = some r := by rw [if_neg (show ¬ (false = true) by decide)] at H; exact H
                    clear H
                    have H := H1
                    clear H1
                    obtain rfl := Option.some.inj H
                    go_wp2_with (first | ((with_reducible refine gate_callee (f := 12) rfl ?_); refine goesL_ (some 57) rfl rfl Try.func12 (by kernel_rfl) rfl #[.string x3_2] rfl (by (try simp only [List.map_toArray, List.map_cons, List.map_nil]); first | done | rfl | (simp only [List.length_drop, List.length_take]; rfl)) ?_; (with_reducible refine (path_Split.calls k2 x3_2 t236 false _ A23.out).mono ?_); rintro e w38 ⟨v238, rfl, ho0, hb⟩; refine ⟨_, rfl, ?_⟩; have n0_ := Aside0.mk (Kd.R_lower ho0 (below_size (by repeat (first | (with_reducible first | exact HB.out | apply below_alloc | apply pw_below_drewN | apply below_drew1) | exact HB.out)))); have n1_ := Aside0.mk (below_step (by repeat (first | (with_reducible first | exact HB.out | apply below_alloc | apply pw_below_drewN | apply below_drew1) | exact HB.out)) hb); clear HB; have HO239 := n0_; have HB := n1_; clear n0_ n1_; (try clear hb); (try clear hb2); (try clear hk); (try clear hi); (try clear ho0)))
                    go_ret
                    exact ⟨by first | rfl | (simp [errW_none, errW_some] <;> rfl) | (simp [*, errW_none, errW_some] <;> rfl), by repeat (first | (with_reducible first | exact HB.out | apply below_alloc | apply pw_below_drewN | apply below_drew1) | exact HB.out)⟩
  · replace c3 := Bool.eq_false_iff.mpr c3
    subst c3
    have H1 : (some false) = some r := by rw [if_neg (show ¬ (false = true) by decide)] at H; exact H
    clear H
    have H := H1
    clear H1
    obtain rfl := Option.some.inj H
    go_enter Try.func8, Try.ntmps8
    go_wp2_with (first | ((with_reducible refine gate_callee (f := 9) rfl ?_); refine goesL_ (some 9) rfl rfl Try.func9 (by kernel_rfl) rfl #[] rfl (by (try simp only [List.map_toArray, List.map_cons, List.map_nil]); first | done | rfl | (simp only [List.length_drop, List.length_take]; rfl)) ?_; (with_reducible refine (crossroadlaw06_fit.calls k  false _ A2.out).mono ?_); rintro e w39 ⟨rfl, hb⟩; refine ⟨_, rfl, ?_⟩; have n0_ := Aside0.mk (below_step (by repeat (first | (with_reducible first | exact HB.out | apply below_alloc | apply pw_below_drewN | apply below_drew1) | exact HB.out)) hb); clear HB; have HB := n0_; clear n0_; (try clear hb); (try clear hb2); (try clear hk); (try clear hi)))
    go_ret
    exact ⟨by first | rfl | (simp [errW_none, errW_some] <;> rfl) | (simp [*, errW_none, errW_some] <;> rfl), by repeat (first | (with_reducible first | exact HB.out | apply below_alloc | apply pw_below_drewN | apply below_drew1) | exact HB.out)⟩

end Go.Proofs.Ytnafapefbcmmbaa.X

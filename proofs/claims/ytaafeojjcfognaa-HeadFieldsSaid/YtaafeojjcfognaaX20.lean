-- Written for this claim by a program of this session (wip/xprint.py). Not trusted: Lean checks it.
import Derived.Test.YtaafeojjcfognaaX0
import Derived.Test.YtaafeojjcfognaaX11
import Derived.Test.YtaafeojjcfognaaX16
namespace Go.Proofs.Ytaafeojjcfognaa.X
open Go.RowKit Go.Proofs.YtaafeojjcfognaaW.PrintWords Go.Proofs.YtaafeojjcfognaaW.PrintLast Go.Proofs.YtaafeojjcfognaaW.PrintMore
attribute [local go_sem] max2_int min2_int max_two min_two max_three min_three max_four min_four   -- for this text's walks alone
set_option linter.unusedVariables false
set_option linter.unusedSimpArgs false

/-! ### crossroadlaw02_HeadFields: function 3 -/
mutual
def crossroadlaw02_HeadFields.j0 : Nat → List (S27) → ByteArray → Bool → Option (Bool)
  | 0, _, _, _ => none
  | k + 1, x0, x1, x18 => if x18 = true then (some true) else ((head_All.f k x0 x1).bind fun t372 => (crossroadlaw02_HeadFields.l0 k x1 t372 0 x0 (x0.length : Int) 0))
def crossroadlaw02_HeadFields.l0 : Nat → ByteArray → List ByteArray → Int → List (S27) → Int → Int → Option (Bool)
  | 0, _, _, _, _, _, _ => none
  | k + 1, x1, x5, x6, x22, x23, x24 => if x24 < x23 then (if 0 ≤ x24 then (if x24 < (x22.length : Int) then (if ((rd_T27 x22 x24).f0).toList = x1.toList then (if x6 ≥ (x5.length : Int) then (some false) else (if 0 ≤ x6 then (if x6 < (x5.length : Int) then (if (rdOf ByteArray.empty x5 x6).toList = ((rd_T27 x22 x24).f1).toList then (crossroadlaw02_HeadFields.l0 k x1 x5 (wrap64 (x6 + 1)) x22 x23 (wrap64 (x24 + 1))) else (some false)) else (none)) else (none))) else (crossroadlaw02_HeadFields.l0 k x1 x5 x6 x22 x23 (wrap64 (x24 + 1)))) else (none)) else (none)) else (some (x6 == (x5.length : Int)))
end
def crossroadlaw02_HeadFields.f (k : Nat) (l0 : List (S27)) (a1 : ByteArray) : Option (Bool) := (crossroadlaw02_fit.f k).bind fun t371 => (if t371 = true then (if (l0.length : Int) > 40 then (crossroadlaw02_HeadFields.j0 k l0 a1 true) else (crossroadlaw02_HeadFields.j0 k l0 a1 (decide ((a1.size : Int) > 100)))) else (some false))
theorem crossroadlaw02_HeadFields.mono_l : ∀ k, (∀ y0 y1 y2, LeO (crossroadlaw02_HeadFields.j0 k y0 y1 y2) (crossroadlaw02_HeadFields.j0 (k + 1) y0 y1 y2)) ∧ (∀ y0 y1 y2 y3 y4 y5, LeO (crossroadlaw02_HeadFields.l0 k y0 y1 y2 y3 y4 y5) (crossroadlaw02_HeadFields.l0 (k + 1) y0 y1 y2 y3 y4 y5))
  | 0 => ⟨fun _ _ _ r h => by simp [crossroadlaw02_HeadFields.j0] at h, fun _ _ _ _ _ _ r h => by simp [crossroadlaw02_HeadFields.l0] at h⟩
  | k + 1 => by
    obtain ⟨ih0, ih1⟩ := crossroadlaw02_HeadFields.mono_l k
    refine ⟨?_, ?_⟩
    · intro y0 y1 y2
      unfold crossroadlaw02_HeadFields.j0
      repeat' first
      | (with_reducible exact ih0 _ _ _)
      | (with_reducible exact ih1 _ _ _ _ _ _)
      | (with_reducible exact crossroadlaw02_fit.mono _)
      | (with_reducible exact head_All.mono _ _ _)
      | (with_reducible exact LeO.refl _)
      | (with_reducible exact LeO.none _)
      | (with_reducible refine LeO.ite ?_ ?_)
      | (with_reducible refine LeO.bind ?_ (fun _ => ?_))
      | exact ih0 _ _ _
      | exact ih1 _ _ _ _ _ _
      | exact crossroadlaw02_fit.mono _
      | exact head_All.mono _ _ _
      | exact LeO.none _
      | refine LeO.ite ?_ ?_
      | refine LeO.bind ?_ (fun _ => ?_)
    · intro y0 y1 y2 y3 y4 y5
      unfold crossroadlaw02_HeadFields.l0
      repeat' first
      | (with_reducible exact ih0 _ _ _)
      | (with_reducible exact ih1 _ _ _ _ _ _)
      | (with_reducible exact crossroadlaw02_fit.mono _)
      | (with_reducible exact head_All.mono _ _ _)
      | (with_reducible exact LeO.refl _)
      | (with_reducible exact LeO.none _)
      | (with_reducible refine LeO.ite ?_ ?_)
      | (with_reducible refine LeO.bind ?_ (fun _ => ?_))
      | exact ih0 _ _ _
      | exact ih1 _ _ _ _ _ _
      | exact crossroadlaw02_fit.mono _
      | exact head_All.mono _ _ _
      | exact LeO.none _
      | refine LeO.ite ?_ ?_
      | refine LeO.bind ?_ (fun _ => ?_)
theorem crossroadlaw02_HeadFields.mono : ∀ a0 a1 k, LeO (crossroadlaw02_HeadFields.f k a0 a1) (crossroadlaw02_HeadFields.f (k + 1) a0 a1) := by
  intro a0 a1 k
  obtain ⟨ih0, ih1⟩ := crossroadlaw02_HeadFields.mono_l k
  unfold crossroadlaw02_HeadFields.f
  repeat' first
      | (with_reducible exact ih0 _ _ _)
      | (with_reducible exact ih1 _ _ _ _ _ _)
      | (with_reducible exact crossroadlaw02_fit.mono _)
      | (with_reducible exact head_All.mono _ _ _)
      | (with_reducible exact LeO.refl _)
      | (with_reducible exact LeO.none _)
      | (with_reducible refine LeO.ite ?_ ?_)
      | (with_reducible refine LeO.bind ?_ (fun _ => ?_))
      | exact ih0 _ _ _
      | exact ih1 _ _ _ _ _ _
      | exact crossroadlaw02_fit.mono _
      | exact head_All.mono _ _ _
      | exact LeO.none _
      | refine LeO.ite ?_ ?_
      | refine LeO.bind ?_ (fun _ => ?_)
set_option maxHeartbeats 8000000 in
set_option maxRecDepth 100000 in
theorem crossroadlaw02_HeadFields.calls (k : Nat) (A0 : Option Addr) (c0 : Nat) (l0 : List (S27)) (a1 : ByteArray) (r : Bool) (w : World) (hr0 : Kd.C k27 w A0 l0.length l0) (hc0 : l0.length ≤ c0) (h : crossroadlaw02_HeadFields.f k l0 a1 = some r) :
    Calls Try.prog 3 #[.slice A0 l0.length c0, .string a1] w fun e w' => e = .returned (.bool r) ∧ Below w.heap.size w w' := by
  have hu27 := Try.underlying27
  have HR0 := Aside0.mk hr0
  have HC0 := Aside0.mk hc0
  clear hr0 hc0
  have HB := Aside0.mk (Below.refl w.heap.size w)
  have H : ((crossroadlaw02_fit.f k).bind fun t371 => (if t371 = true then (if (l0.length : Int) > 40 then (crossroadlaw02_HeadFields.j0 k l0 a1 true) else (crossroadlaw02_HeadFields.j0 k l0 a1 (decide ((a1.size : Int) > 100)))) else (some false))) = some r := h
  clear h
  replace H := Option.bind_eq_some_iff.mp H
  obtain ⟨t371, A30, H⟩ := H
  replace H : (if t371 = true then (if (l0.length : Int) > 40 then (crossroadlaw02_HeadFields.j0 k l0 a1 true) else (crossroadlaw02_HeadFields.j0 k l0 a1 (decide ((a1.size : Int) > 100)))) else (some false)) = some r := H
  have A3 := Aside0.mk A30
  clear A30
  by_cases c4 : t371 = true
  · subst c4
    have H1 : (if (l0.length : Int) > 40 then (crossroadlaw02_HeadFields.j0 k l0 a1 true) else (crossroadlaw02_HeadFields.j0 k l0 a1 (decide ((a1.size : Int) > 100)))) = some r := by rw [if_pos rfl] at H; exact H
    clear H
    have H := H1
    clear H1
    have HC5 := Aside0.mk H
    clear H
    go_enter Try.func3, Try.ntmps3
    go_upto_region 3 with (first | (go_at_call 9; (with_reducible refine (crossroadlaw02_fit.calls k  true _ A3.out).mono ?_); rintro e w6 ⟨rfl, hb⟩; have n0_ := Aside0.mk (below_step (by repeat (first | (with_reducible first | exact HB.out | apply below_alloc | apply pw_below_drewN | apply below_drew1) | exact HB.out)) hb); clear HB; have HB := n0_; clear n0_; (try clear hb); (try clear hb2); (try clear hk); (try clear hi)))
    repeat (go_quiet (first | (go_at_call 9; (with_reducible refine (crossroadlaw02_fit.calls k  true _ A3.out).mono ?_); rintro e w6 ⟨rfl, hb⟩; have n0_ := Aside0.mk (below_step (by repeat (first | (with_reducible first | exact HB.out | apply below_alloc | apply pw_below_drewN | apply below_drew1) | exact HB.out)) hb); clear HB; have HB := n0_; clear n0_; (try clear hb); (try clear hb2); (try clear hk); (try clear hi))); go_upto_region 3 with (first | (go_at_call 9; (with_reducible refine (crossroadlaw02_fit.calls k  true _ A3.out).mono ?_); rintro e w6 ⟨rfl, hb⟩; have n0_ := Aside0.mk (below_step (by repeat (first | (with_reducible first | exact HB.out | apply below_alloc | apply pw_below_drewN | apply below_drew1) | exact HB.out)) hb); clear HB; have HB := n0_; clear n0_; (try clear hb); (try clear hb2); (try clear hk); (try clear hi))))
    (try simp only [Act.put, List.setIfInBounds_toArray, List.set_cons_zero, List.set_cons_succ])
    go_cut [18] (fun v18 wc => ∃ (kq : Nat) (x18_4 : Bool), v18 = .bool x18_4 ∧ Aside0 (crossroadlaw02_HeadFields.j0 kq l0 a1 x18_4 = some r) ∧ Aside0 (kq ≤ k) ∧ Aside0 (Below w.heap.size w wc))
    case first =>
      have H := HC5.out
      clear HC5
      by_cases c7 : (l0.length : Int) > 40
      · rw [if_pos c7] at H
        have c7b0 : decide (40 < (l0.length : Int)) = true := decide_eq_true c7
        have c7b1 : decide (40 < l0.length) = true := decide_eq_true (by omega)
        clear c7
        (first | rw [c7b0] | (simp only [i64_w, i32_w]; rw [c7b0]) | skip)
        have H' := Aside0.mk H
        clear H
        go_wp2
        repeat (go_quiet (fail); try go_wp2)
        go_meet
        case rel => exact ⟨_, (true), (by first | rfl | (simp; done) | (simp [*]; done)), H', ⟨by first | omega | exact Nat.le_refl _⟩, ⟨by repeat (first | (with_reducible first | exact HB.out | apply below_alloc | apply pw_below_drewN | apply below_drew1) | exact HB.out)⟩⟩
      · rw [if_neg c7] at H
        have c7b0 : decide (40 < (l0.length : Int)) = false := decide_eq_false c7
        have c7b1 : decide (40 < l0.length) = false := decide_eq_false (by omega)
        clear c7
        (first | rw [c7b0] | (simp only [i64_w, i32_w]; rw [c7b0]) | skip)
        have H' := Aside0.mk H
        clear H
        go_wp2
        repeat (go_quiet (fail); try go_wp2)
        go_meet
        case rel => exact ⟨_, (decide ((a1.size : Int) > 100)), (by first | rfl | (simp; done) | (simp [*]; done)), H', ⟨by first | omega | exact Nat.le_refl _⟩, ⟨by repeat (first | (with_reducible first | exact HB.out | apply below_alloc | apply pw_below_drewN | apply below_drew1) | exact HB.out)⟩⟩
    case rest =>
      clear HC5
      try clear p2
      try clear c3
      try clear c4
      try clear c7
      try clear c7b0
      try clear c7b1
      obtain ⟨kq, x18_4, rfl, HA, HJ4, HB⟩ := hcut
      cases kq with
      | zero => exact absurd HA.out (by simp [crossroadlaw02_HeadFields.j0])
      | succ kj4 =>
        have H := HA.out
        clear HA
        simp only [crossroadlaw02_HeadFields.j0] at H
        by_cases c8 : x18_4 = true
        · subst c8
          have H1 : (some true) = some r := by rw [if_pos rfl] at H; exact H
          clear H
          have H := H1
          clear H1
          obtain rfl := Option.some.inj H
          go_wp2
          repeat (go_quiet (fail); try go_wp2)
          go_ret
          exact ⟨by first | rfl | (simp [errW_none, errW_some] <;> rfl) | (simp [*, errW_none, errW_some] <;> rfl), by repeat (first | (with_reducible first | exact HB.out | apply below_alloc | apply pw_below_drewN | apply below_drew1) | exact HB.out)⟩
        · replace c8 := Bool.eq_false_iff.mpr c8
          subst c8
          have H1 : ((head_All.f kj4 l0 a1).bind fun t372 => (crossroadlaw02_HeadFields.l0 kj4 a1 t372 0 l0 (l0.length : Int) 0)) = some r := by rw [if_neg (show ¬ (false = true) by decide)] at H; exact H
          clear H
          have H := H1
          clear H1
          replace H := Option.bind_eq_some_iff.mp H
          obtain ⟨t372, A90, H⟩ := H
          replace H : (crossroadlaw02_HeadFields.l0 kj4 a1 t372 0 l0 (l0.length : Int) 0) = some r := H
          have A9 := Aside0.mk A90
          clear A90
          have H' := Aside0.mk H
          clear H
          go_wp2_with (first | (go_at_call 10; (with_reducible refine (head_All.calls kj4 _ _ l0 a1 t372 _ ?side1 ?side2 A9.out).mono ?_); (case side1 => repeat (first | exact (Kd.C_below HR0.out HB.out) | (with_reducible refine Kd.C_alloc ?_ _) | (with_reducible refine Kd.C_drewN ?_ _) | (with_reducible refine Kd.C_drew ?_))); (case side2 => exact HC0.out); rintro e w10 ⟨v373, rfl, ho0, hb⟩; have n0_ := Aside0.mk (Kd.R_lower ho0 (below_size (by repeat (first | (with_reducible first | exact HB.out | apply below_alloc | apply pw_below_drewN | apply below_drew1) | exact HB.out)))); have n1_ := Aside0.mk (below_step (by repeat (first | (with_reducible first | exact HB.out | apply below_alloc | apply pw_below_drewN | apply below_drew1) | exact HB.out)) hb); clear HB; have HO374 := n0_; have HB := n1_; clear n0_ n1_; (try clear hb); (try clear hb2); (try clear hk); (try clear hi); (try clear ho0)))
          repeat (go_quiet (first | (go_at_call 10; (with_reducible refine (head_All.calls kj4 _ _ l0 a1 t372 _ ?side1 ?side2 A9.out).mono ?_); (case side1 => repeat (first | exact (Kd.C_below HR0.out HB.out) | (with_reducible refine Kd.C_alloc ?_ _) | (with_reducible refine Kd.C_drewN ?_ _) | (with_reducible refine Kd.C_drew ?_))); (case side2 => exact HC0.out); rintro e w10 ⟨v373, rfl, ho0, hb⟩; have n0_ := Aside0.mk (Kd.R_lower ho0 (below_size (by repeat (first | (with_reducible first | exact HB.out | apply below_alloc | apply pw_below_drewN | apply below_drew1) | exact HB.out)))); have n1_ := Aside0.mk (below_step (by repeat (first | (with_reducible first | exact HB.out | apply below_alloc | apply pw_below_drewN | apply below_drew1) | exact HB.out)) hb); clear HB; have HO374 := n0_; have HB := n1_; clear n0_ n1_; (try clear hb); (try clear hb2); (try clear hk); (try clear hi); (try clear ho0))); try go_wp2_with (first | (go_at_call 10; (with_reducible refine (head_All.calls kj4 _ _ l0 a1 t372 _ ?side1 ?side2 A9.out).mono ?_); (case side1 => repeat (first | exact (Kd.C_below HR0.out HB.out) | (with_reducible refine Kd.C_alloc ?_ _) | (with_reducible refine Kd.C_drewN ?_ _) | (with_reducible refine Kd.C_drew ?_))); (case side2 => exact HC0.out); rintro e w10 ⟨v373, rfl, ho0, hb⟩; have n0_ := Aside0.mk (Kd.R_lower ho0 (below_size (by repeat (first | (with_reducible first | exact HB.out | apply below_alloc | apply pw_below_drewN | apply below_drew1) | exact HB.out)))); have n1_ := Aside0.mk (below_step (by repeat (first | (with_reducible first | exact HB.out | apply below_alloc | apply pw_below_drewN | apply below_drew1) | exact HB.out)) hb); clear HB; have HO374 := n0_; have HB := n1_; clear n0_ n1_; (try clear hb); (try clear hb2); (try clear hk); (try clear hi); (try clear ho0))))
          go_loopg [6, 24] kj4 (fun kq v6 v24 w' => ∃ (x6_2 : Int) (x24_2 : Int), v6 = .int .i64 x6_2 ∧ v24 = .int .i64 x24_2 ∧ Aside0 (crossroadlaw02_HeadFields.l0 kq a1 t372 x6_2 l0 (l0.length : Int) x24_2 = some r) ∧ Aside0 (kq ≤ kj4) ∧ Aside0 (Kd.R Kd.string 9 w' w.heap.size (fun _ => True) v373 t372) ∧ Aside0 (Below w.heap.size w w'))
          case atStart => exact ⟨(0), (0), (by first | rfl | (simp; done) | (simp [*]; done)), (by first | rfl | (simp; done) | (simp [*]; done)), H', ⟨Nat.le_refl _⟩, ⟨by (with_reducible repeat (first | apply Kd.R_alloc | apply Kd.R_drewN | apply Kd.R_drew)); exact HO374.out⟩, ⟨by repeat (first | (with_reducible first | exact HB.out | apply below_alloc | apply pw_below_drewN | apply below_drew1) | exact HB.out)⟩⟩
          case round =>
            clear H'
            try clear p2
            try clear c3
            try clear c4
            try clear c7
            try clear c7b0
            try clear c7b1
            try clear c8
            try clear p2
            obtain ⟨x6_2, x24_2, rfl, rfl, HA, HK2, HO_5, HB⟩ := hrel
            cases gk with
            | zero => exact absurd HA.out (by simp [crossroadlaw02_HeadFields.l0])
            | succ k2 =>
              have H := HA.out
              clear HA
              simp only [crossroadlaw02_HeadFields.l0] at H
              by_cases c11 : x24_2 < (l0.length : Int)
              · rw [if_pos c11] at H
                have c11b0 : decide (x24_2 < (l0.length : Int)) = true := decide_eq_true c11
                clear c11
                by_cases c12 : 0 ≤ x24_2
                · rw [if_pos c12] at H
                  have c12b0 : decide (0 ≤ x24_2) = true := decide_eq_true c12
                  clear c12
                  by_cases c13 : x24_2 < (l0.length : Int)
                  · rw [if_pos c13] at H
                    have c13b0 : decide (x24_2 < (l0.length : Int)) = true := decide_eq_true c13
                    clear c13
                    by_cases c14 : ((rd_T27 l0 x24_2).f0).toList = a1.toList
                    · rw [if_pos c14] at H
                      have c14b0 : (((rd_T27 l0 x24_2).f0).toList == a1.toList) = true := beq_iff_eq.mpr c14
                      have c14b1 : (((rd_T27 l0 x24_2).f0).toList != a1.toList) = false := bne_eq_false_iff_eq.mpr c14
                      clear c14
                      by_cases c15 : x6_2 ≥ (t372.length : Int)
                      · rw [if_pos c15] at H
                        have c15b0 : decide ((t372.length : Int) ≤ x6_2) = true := decide_eq_true c15
                        clear c15
                        obtain rfl := Option.some.inj H
                        have p375 : 0 ≤ (x24_2 : Int) := of_decide_eq_true (by first | (with_reducible assumption) | assumption)
                        have q375 : x24_2 < (l0.length : Int) := of_decide_eq_true (by first | (with_reducible assumption) | assumption)
                        obtain ⟨ad375, e375, hx375_0, hx375_1⟩ := at_T27 HR0.out x24_2 p375 q375
                        cases e375
                        replace hx375_0 := (HB.out.cell (World.block_lt_of_cell? w _ hx375_0)).trans hx375_0
                        replace hx375_1 := (HB.out.cell (World.block_lt_of_cell? w _ hx375_1)).trans hx375_1
                        replace p375 := eq_true p375
                        replace q375 := eq_true q375
                        go_wp2_with (first | ((with_reducible refine gate_dst (N := 8) rfl ?_); (try (refine gate_guard (by rfl) ?_; dsimp only)); refine box_event ?hg (N := 8) ?hd (cs := #[.string (⟨#[]⟩ : ByteArray), .string (⟨#[]⟩ : ByteArray)]) (t := 27) ?hr ?_; (case hd => rfl); (case hg => rfl); (case hr => first | (go_simp; done) | (go_simp; rfl)); intro gb376 hg w16 hbox hb; have n0_ := Aside0.mk (Kd.R_below (by (with_reducible repeat (first | apply Kd.R_alloc | apply Kd.R_drewN | apply Kd.R_drew)); exact HO_5.out) hb); have n1_ := Aside0.mk (below_step (by repeat (first | (with_reducible first | exact HB.out | apply below_alloc | apply pw_below_drewN | apply below_drew1) | exact HB.out)) hb); have n2_ := Aside0.mk (hbox); have n3_ := Aside0.mk ((by rw [hg]; exact (below_size (by repeat (first | (with_reducible first | exact HB.out | apply below_alloc | apply pw_below_drewN | apply below_drew1) | exact HB.out))) : w.heap.size ≤ gb376)); have n4_ := Aside0.mk ((by rw [hg]; exact (below_size (by repeat (first | (with_reducible first | exact HB.out | apply below_alloc | apply pw_below_drewN | apply below_drew1) | exact HB.out))) : w.heap.size ≤ gb376)); clear HO_5; clear HB; have HO_5 := n0_; have HB := n1_; have BK376 := n2_; have GW376 := n3_; have GE376 := n4_; clear n0_ n1_ n2_ n3_ n4_; clear hb hbox hg; have hcz17_0 : w16.cell? ⟨gb376, 0, none⟩ = some (.string (⟨#[]⟩ : ByteArray)) := (blk_cell BK376.out 0).trans rfl; have hcz17_1 : w16.cell? ⟨gb376, 1, none⟩ = some (.string (⟨#[]⟩ : ByteArray)) := (blk_cell BK376.out 1).trans rfl; have hfz17_0 := blk_frozen BK376.out 0; have hfz17_1 := blk_frozen BK376.out 1; obtain ⟨Ao18, co18, eo18⟩ := Kd.R_slice HO_5.out; subst eo18))
                        repeat (go_quiet (first | ((with_reducible refine gate_dst (N := 8) rfl ?_); (try (refine gate_guard (by rfl) ?_; dsimp only)); refine box_event ?hg (N := 8) ?hd (cs := #[.string (⟨#[]⟩ : ByteArray), .string (⟨#[]⟩ : ByteArray)]) (t := 27) ?hr ?_; (case hd => rfl); (case hg => rfl); (case hr => first | (go_simp; done) | (go_simp; rfl)); intro gb376 hg w16 hbox hb; have n0_ := Aside0.mk (Kd.R_below (by (with_reducible repeat (first | apply Kd.R_alloc | apply Kd.R_drewN | apply Kd.R_drew)); exact HO_5.out) hb); have n1_ := Aside0.mk (below_step (by repeat (first | (with_reducible first | exact HB.out | apply below_alloc | apply pw_below_drewN | apply below_drew1) | exact HB.out)) hb); have n2_ := Aside0.mk (hbox); have n3_ := Aside0.mk ((by rw [hg]; exact (below_size (by repeat (first | (with_reducible first | exact HB.out | apply below_alloc | apply pw_below_drewN | apply below_drew1) | exact HB.out))) : w.heap.size ≤ gb376)); have n4_ := Aside0.mk ((by rw [hg]; exact (below_size (by repeat (first | (with_reducible first | exact HB.out | apply below_alloc | apply pw_below_drewN | apply below_drew1) | exact HB.out))) : w.heap.size ≤ gb376)); clear HO_5; clear HB; have HO_5 := n0_; have HB := n1_; have BK376 := n2_; have GW376 := n3_; have GE376 := n4_; clear n0_ n1_ n2_ n3_ n4_; clear hb hbox hg; have hcz17_0 : w16.cell? ⟨gb376, 0, none⟩ = some (.string (⟨#[]⟩ : ByteArray)) := (blk_cell BK376.out 0).trans rfl; have hcz17_1 : w16.cell? ⟨gb376, 1, none⟩ = some (.string (⟨#[]⟩ : ByteArray)) := (blk_cell BK376.out 1).trans rfl; have hfz17_0 := blk_frozen BK376.out 0; have hfz17_1 := blk_frozen BK376.out 1; obtain ⟨Ao18, co18, eo18⟩ := Kd.R_slice HO_5.out; subst eo18)); try go_wp2_with (first | ((with_reducible refine gate_dst (N := 8) rfl ?_); (try (refine gate_guard (by rfl) ?_; dsimp only)); refine box_event ?hg (N := 8) ?hd (cs := #[.string (⟨#[]⟩ : ByteArray), .string (⟨#[]⟩ : ByteArray)]) (t := 27) ?hr ?_; (case hd => rfl); (case hg => rfl); (case hr => first | (go_simp; done) | (go_simp; rfl)); intro gb376 hg w16 hbox hb; have n0_ := Aside0.mk (Kd.R_below (by (with_reducible repeat (first | apply Kd.R_alloc | apply Kd.R_drewN | apply Kd.R_drew)); exact HO_5.out) hb); have n1_ := Aside0.mk (below_step (by repeat (first | (with_reducible first | exact HB.out | apply below_alloc | apply pw_below_drewN | apply below_drew1) | exact HB.out)) hb); have n2_ := Aside0.mk (hbox); have n3_ := Aside0.mk ((by rw [hg]; exact (below_size (by repeat (first | (with_reducible first | exact HB.out | apply below_alloc | apply pw_below_drewN | apply below_drew1) | exact HB.out))) : w.heap.size ≤ gb376)); have n4_ := Aside0.mk ((by rw [hg]; exact (below_size (by repeat (first | (with_reducible first | exact HB.out | apply below_alloc | apply pw_below_drewN | apply below_drew1) | exact HB.out))) : w.heap.size ≤ gb376)); clear HO_5; clear HB; have HO_5 := n0_; have HB := n1_; have BK376 := n2_; have GW376 := n3_; have GE376 := n4_; clear n0_ n1_ n2_ n3_ n4_; clear hb hbox hg; have hcz17_0 : w16.cell? ⟨gb376, 0, none⟩ = some (.string (⟨#[]⟩ : ByteArray)) := (blk_cell BK376.out 0).trans rfl; have hcz17_1 : w16.cell? ⟨gb376, 1, none⟩ = some (.string (⟨#[]⟩ : ByteArray)) := (blk_cell BK376.out 1).trans rfl; have hfz17_0 := blk_frozen BK376.out 0; have hfz17_1 := blk_frozen BK376.out 1; obtain ⟨Ao18, co18, eo18⟩ := Kd.R_slice HO_5.out; subst eo18)))
                        go_ret
                        exact ⟨by first | rfl | (simp [errW_none, errW_some] <;> rfl) | (simp [*, errW_none, errW_some] <;> rfl), by repeat (first | (with_reducible first | exact HB.out | apply below_alloc | apply pw_below_drewN | apply below_drew1 | refine below_set ?_ GE376.out) | exact HB.out)⟩
                      · rw [if_neg c15] at H
                        have c15b0 : decide ((t372.length : Int) ≤ x6_2) = false := decide_eq_false c15
                        clear c15
                        by_cases c19 : 0 ≤ x6_2
                        · rw [if_pos c19] at H
                          have c19b0 : decide (0 ≤ x6_2) = true := decide_eq_true c19
                          clear c19
                          by_cases c20 : x6_2 < (t372.length : Int)
                          · rw [if_pos c20] at H
                            have c20b0 : decide (x6_2 < (t372.length : Int)) = true := decide_eq_true c20
                            clear c20
                            by_cases c21 : (rdOf ByteArray.empty t372 x6_2).toList = ((rd_T27 l0 x24_2).f1).toList
                            · rw [if_pos c21] at H
                              have c21b0 : ((rdOf ByteArray.empty t372 x6_2).toList == ((rd_T27 l0 x24_2).f1).toList) = true := beq_iff_eq.mpr c21
                              have c21b1 : ((rdOf ByteArray.empty t372 x6_2).toList != ((rd_T27 l0 x24_2).f1).toList) = false := bne_eq_false_iff_eq.mpr c21
                              clear c21
                              have H' := Aside0.mk H
                              clear H
                              have p375 : 0 ≤ (x24_2 : Int) := of_decide_eq_true (by first | (with_reducible assumption) | assumption)
                              have q375 : x24_2 < (l0.length : Int) := of_decide_eq_true (by first | (with_reducible assumption) | assumption)
                              obtain ⟨ad375, e375, hx375_0, hx375_1⟩ := at_T27 HR0.out x24_2 p375 q375
                              cases e375
                              replace hx375_0 := (HB.out.cell (World.block_lt_of_cell? w _ hx375_0)).trans hx375_0
                              replace hx375_1 := (HB.out.cell (World.block_lt_of_cell? w _ hx375_1)).trans hx375_1
                              replace p375 := eq_true p375
                              replace q375 := eq_true q375
                              go_wp2_with (first | ((with_reducible refine gate_dst (N := 8) rfl ?_); (try (refine gate_guard (by rfl) ?_; dsimp only)); refine box_event ?hg (N := 8) ?hd (cs := #[.string (⟨#[]⟩ : ByteArray), .string (⟨#[]⟩ : ByteArray)]) (t := 27) ?hr ?_; (case hd => rfl); (case hg => rfl); (case hr => first | (go_simp; done) | (go_simp; rfl)); intro gb376 hg w22 hbox hb; have n0_ := Aside0.mk (Kd.R_below (by (with_reducible repeat (first | apply Kd.R_alloc | apply Kd.R_drewN | apply Kd.R_drew)); exact HO_5.out) hb); have n1_ := Aside0.mk (below_step (by repeat (first | (with_reducible first | exact HB.out | apply below_alloc | apply pw_below_drewN | apply below_drew1) | exact HB.out)) hb); have n2_ := Aside0.mk (hbox); have n3_ := Aside0.mk ((by rw [hg]; exact (below_size (by repeat (first | (with_reducible first | exact HB.out | apply below_alloc | apply pw_below_drewN | apply below_drew1) | exact HB.out))) : w.heap.size ≤ gb376)); have n4_ := Aside0.mk ((by rw [hg]; exact (below_size (by repeat (first | (with_reducible first | exact HB.out | apply below_alloc | apply pw_below_drewN | apply below_drew1) | exact HB.out))) : w.heap.size ≤ gb376)); clear HO_5; clear HB; have HO_5 := n0_; have HB := n1_; have BK376 := n2_; have GW376 := n3_; have GE376 := n4_; clear n0_ n1_ n2_ n3_ n4_; clear hb hbox hg; have hcz23_0 : w22.cell? ⟨gb376, 0, none⟩ = some (.string (⟨#[]⟩ : ByteArray)) := (blk_cell BK376.out 0).trans rfl; have hcz23_1 : w22.cell? ⟨gb376, 1, none⟩ = some (.string (⟨#[]⟩ : ByteArray)) := (blk_cell BK376.out 1).trans rfl; have hfz23_0 := blk_frozen BK376.out 0; have hfz23_1 := blk_frozen BK376.out 1; obtain ⟨Ao24, co24, eo24⟩ := Kd.R_slice HO_5.out; subst eo24; have p377 : 0 ≤ (x6_2 : Int) := of_decide_eq_true (by first | (with_reducible assumption) | assumption); have q377 : x6_2 < (t372.length : Int) := of_decide_eq_true (by first | (with_reducible assumption) | assumption); obtain ⟨ad377, e377, hx377_0⟩ := Kd.at_string (Kd.R_reads' HO_5.out).2.2 x6_2 p377 q377; cases e377; have hn377_0 : ad377.block ≠ gb376 := Kd.own_blk (Kd.R_ne HO_5.out BK376.out (by decide)); have hn377_1 : ad377.block ≠ gb376 := Kd.own_blk (Kd.R_ne HO_5.out BK376.out (by decide)); replace hx377_0 := (cell_far (p := ⟨gb376, 0, none⟩) (by first | (rw [add_block]; exact hn377_0) | (show (Addr.add _ _).block ≠ _; rw [add_block]; exact hn377_0) | exact hn377_0) (.string ((rd_T27 l0 x24_2).f0))).trans hx377_0; replace hx377_0 := (cell_far (p := ⟨gb376, 1, none⟩) (by first | (rw [add_block]; exact hn377_1) | (show (Addr.add _ _).block ≠ _; rw [add_block]; exact hn377_1) | exact hn377_1) (.string ((rd_T27 l0 x24_2).f1))).trans hx377_0; (try have hy377_0 := fun (n_ : Nat) => (show ((((w22.drewN n_).setCell ⟨gb376, 0, none⟩ (.string ((rd_T27 l0 x24_2).f0))).setCell ⟨gb376, 1, none⟩ (.string ((rd_T27 l0 x24_2).f1)))).cell? _ = some _ from hx377_0)); clear hn377_0; clear hn377_1; replace p377 := eq_true p377; replace q377 := eq_true q377))
                              repeat (go_quiet (first | ((with_reducible refine gate_dst (N := 8) rfl ?_); (try (refine gate_guard (by rfl) ?_; dsimp only)); refine box_event ?hg (N := 8) ?hd (cs := #[.string (⟨#[]⟩ : ByteArray), .string (⟨#[]⟩ : ByteArray)]) (t := 27) ?hr ?_; (case hd => rfl); (case hg => rfl); (case hr => first | (go_simp; done) | (go_simp; rfl)); intro gb376 hg w22 hbox hb; have n0_ := Aside0.mk (Kd.R_below (by (with_reducible repeat (first | apply Kd.R_alloc | apply Kd.R_drewN | apply Kd.R_drew)); exact HO_5.out) hb); have n1_ := Aside0.mk (below_step (by repeat (first | (with_reducible first | exact HB.out | apply below_alloc | apply pw_below_drewN | apply below_drew1) | exact HB.out)) hb); have n2_ := Aside0.mk (hbox); have n3_ := Aside0.mk ((by rw [hg]; exact (below_size (by repeat (first | (with_reducible first | exact HB.out | apply below_alloc | apply pw_below_drewN | apply below_drew1) | exact HB.out))) : w.heap.size ≤ gb376)); have n4_ := Aside0.mk ((by rw [hg]; exact (below_size (by repeat (first | (with_reducible first | exact HB.out | apply below_alloc | apply pw_below_drewN | apply below_drew1) | exact HB.out))) : w.heap.size ≤ gb376)); clear HO_5; clear HB; have HO_5 := n0_; have HB := n1_; have BK376 := n2_; have GW376 := n3_; have GE376 := n4_; clear n0_ n1_ n2_ n3_ n4_; clear hb hbox hg; have hcz23_0 : w22.cell? ⟨gb376, 0, none⟩ = some (.string (⟨#[]⟩ : ByteArray)) := (blk_cell BK376.out 0).trans rfl; have hcz23_1 : w22.cell? ⟨gb376, 1, none⟩ = some (.string (⟨#[]⟩ : ByteArray)) := (blk_cell BK376.out 1).trans rfl; have hfz23_0 := blk_frozen BK376.out 0; have hfz23_1 := blk_frozen BK376.out 1; obtain ⟨Ao24, co24, eo24⟩ := Kd.R_slice HO_5.out; subst eo24; have p377 : 0 ≤ (x6_2 : Int) := of_decide_eq_true (by first | (with_reducible assumption) | assumption); have q377 : x6_2 < (t372.length : Int) := of_decide_eq_true (by first | (with_reducible assumption) | assumption); obtain ⟨ad377, e377, hx377_0⟩ := Kd.at_string (Kd.R_reads' HO_5.out).2.2 x6_2 p377 q377; cases e377; have hn377_0 : ad377.block ≠ gb376 := Kd.own_blk (Kd.R_ne HO_5.out BK376.out (by decide)); have hn377_1 : ad377.block ≠ gb376 := Kd.own_blk (Kd.R_ne HO_5.out BK376.out (by decide)); replace hx377_0 := (cell_far (p := ⟨gb376, 0, none⟩) (by first | (rw [add_block]; exact hn377_0) | (show (Addr.add _ _).block ≠ _; rw [add_block]; exact hn377_0) | exact hn377_0) (.string ((rd_T27 l0 x24_2).f0))).trans hx377_0; replace hx377_0 := (cell_far (p := ⟨gb376, 1, none⟩) (by first | (rw [add_block]; exact hn377_1) | (show (Addr.add _ _).block ≠ _; rw [add_block]; exact hn377_1) | exact hn377_1) (.string ((rd_T27 l0 x24_2).f1))).trans hx377_0; (try have hy377_0 := fun (n_ : Nat) => (show ((((w22.drewN n_).setCell ⟨gb376, 0, none⟩ (.string ((rd_T27 l0 x24_2).f0))).setCell ⟨gb376, 1, none⟩ (.string ((rd_T27 l0 x24_2).f1)))).cell? _ = some _ from hx377_0)); clear hn377_0; clear hn377_1; replace p377 := eq_true p377; replace q377 := eq_true q377)); try go_wp2_with (first | ((with_reducible refine gate_dst (N := 8) rfl ?_); (try (refine gate_guard (by rfl) ?_; dsimp only)); refine box_event ?hg (N := 8) ?hd (cs := #[.string (⟨#[]⟩ : ByteArray), .string (⟨#[]⟩ : ByteArray)]) (t := 27) ?hr ?_; (case hd => rfl); (case hg => rfl); (case hr => first | (go_simp; done) | (go_simp; rfl)); intro gb376 hg w22 hbox hb; have n0_ := Aside0.mk (Kd.R_below (by (with_reducible repeat (first | apply Kd.R_alloc | apply Kd.R_drewN | apply Kd.R_drew)); exact HO_5.out) hb); have n1_ := Aside0.mk (below_step (by repeat (first | (with_reducible first | exact HB.out | apply below_alloc | apply pw_below_drewN | apply below_drew1) | exact HB.out)) hb); have n2_ := Aside0.mk (hbox); have n3_ := Aside0.mk ((by rw [hg]; exact (below_size (by repeat (first | (with_reducible first | exact HB.out | apply below_alloc | apply pw_below_drewN | apply below_drew1) | exact HB.out))) : w.heap.size ≤ gb376)); have n4_ := Aside0.mk ((by rw [hg]; exact (below_size (by repeat (first | (with_reducible first | exact HB.out | apply below_alloc | apply pw_below_drewN | apply below_drew1) | exact HB.out))) : w.heap.size ≤ gb376)); clear HO_5; clear HB; have HO_5 := n0_; have HB := n1_; have BK376 := n2_; have GW376 := n3_; have GE376 := n4_; clear n0_ n1_ n2_ n3_ n4_; clear hb hbox hg; have hcz23_0 : w22.cell? ⟨gb376, 0, none⟩ = some (.string (⟨#[]⟩ : ByteArray)) := (blk_cell BK376.out 0).trans rfl; have hcz23_1 : w22.cell? ⟨gb376, 1, none⟩ = some (.string (⟨#[]⟩ : ByteArray)) := (blk_cell BK376.out 1).trans rfl; have hfz23_0 := blk_frozen BK376.out 0; have hfz23_1 := blk_frozen BK376.out 1; obtain ⟨Ao24, co24, eo24⟩ := Kd.R_slice HO_5.out; subst eo24; have p377 : 0 ≤ (x6_2 : Int) := of_decide_eq_true (by first | (with_reducible assumption) | assumption); have q377 : x6_2 < (t372.length : Int) := of_decide_eq_true (by first | (with_reducible assumption) | assumption); obtain ⟨ad377, e377, hx377_0⟩ := Kd.at_string (Kd.R_reads' HO_5.out).2.2 x6_2 p377 q377; cases e377; have hn377_0 : ad377.block ≠ gb376 := Kd.own_blk (Kd.R_ne HO_5.out BK376.out (by decide)); have hn377_1 : ad377.block ≠ gb376 := Kd.own_blk (Kd.R_ne HO_5.out BK376.out (by decide)); replace hx377_0 := (cell_far (p := ⟨gb376, 0, none⟩) (by first | (rw [add_block]; exact hn377_0) | (show (Addr.add _ _).block ≠ _; rw [add_block]; exact hn377_0) | exact hn377_0) (.string ((rd_T27 l0 x24_2).f0))).trans hx377_0; replace hx377_0 := (cell_far (p := ⟨gb376, 1, none⟩) (by first | (rw [add_block]; exact hn377_1) | (show (Addr.add _ _).block ≠ _; rw [add_block]; exact hn377_1) | exact hn377_1) (.string ((rd_T27 l0 x24_2).f1))).trans hx377_0; (try have hy377_0 := fun (n_ : Nat) => (show ((((w22.drewN n_).setCell ⟨gb376, 0, none⟩ (.string ((rd_T27 l0 x24_2).f0))).setCell ⟨gb376, 1, none⟩ (.string ((rd_T27 l0 x24_2).f1)))).cell? _ = some _ from hx377_0)); clear hn377_0; clear hn377_1; replace p377 := eq_true p377; replace q377 := eq_true q377)))
                              go_roundg k2
                              case measure => have := HJ4.out; have := HK2.out; omega
                              case rel => exact ⟨(wrap64 (x6_2 + 1)), (wrap64 (x24_2 + 1)), (by first | rfl | (simp; done) | (simp [*]; done)), (by first | rfl | (simp; done) | (simp [*]; done)), H', ⟨by have := HJ4.out; have := HK2.out; omega⟩, ⟨by (with_reducible repeat (first | apply Kd.R_alloc | apply Kd.R_drewN | apply Kd.R_drew)); exact Kd.R_mono (Kd.R_far (p := ⟨gb376, 1, none⟩) (Kd.R_far (p := ⟨gb376, 0, none⟩) (Kd.R_types HO_5.out BK376.out (by decide)) (fun _ hk => hk.2) (.string ((rd_T27 l0 x24_2).f0))) (fun _ hk => hk.2) (.string ((rd_T27 l0 x24_2).f1))) (fun _ hk => trivial)⟩, ⟨by repeat (first | (with_reducible first | exact HB.out | apply below_alloc | apply pw_below_drewN | apply below_drew1 | refine below_set ?_ GE376.out) | exact HB.out)⟩⟩
                            · rw [if_neg c21] at H
                              have c21b0 : ((rdOf ByteArray.empty t372 x6_2).toList == ((rd_T27 l0 x24_2).f1).toList) = false := beq_eq_false_iff_ne.mpr c21
                              have c21b1 : ((rdOf ByteArray.empty t372 x6_2).toList != ((rd_T27 l0 x24_2).f1).toList) = true := bne_iff_ne.mpr c21
                              obtain rfl := Option.some.inj H
                              have p375 : 0 ≤ (x24_2 : Int) := of_decide_eq_true (by first | (with_reducible assumption) | assumption)
                              have q375 : x24_2 < (l0.length : Int) := of_decide_eq_true (by first | (with_reducible assumption) | assumption)
                              obtain ⟨ad375, e375, hx375_0, hx375_1⟩ := at_T27 HR0.out x24_2 p375 q375
                              cases e375
                              replace hx375_0 := (HB.out.cell (World.block_lt_of_cell? w _ hx375_0)).trans hx375_0
                              replace hx375_1 := (HB.out.cell (World.block_lt_of_cell? w _ hx375_1)).trans hx375_1
                              replace p375 := eq_true p375
                              replace q375 := eq_true q375
                              go_wp2_with (first | ((with_reducible refine gate_dst (N := 8) rfl ?_); (try (refine gate_guard (by rfl) ?_; dsimp only)); refine box_event ?hg (N := 8) ?hd (cs := #[.string (⟨#[]⟩ : ByteArray), .string (⟨#[]⟩ : ByteArray)]) (t := 27) ?hr ?_; (case hd => rfl); (case hg => rfl); (case hr => first | (go_simp; done) | (go_simp; rfl)); intro gb376 hg w25 hbox hb; have n0_ := Aside0.mk (Kd.R_below (by (with_reducible repeat (first | apply Kd.R_alloc | apply Kd.R_drewN | apply Kd.R_drew)); exact HO_5.out) hb); have n1_ := Aside0.mk (below_step (by repeat (first | (with_reducible first | exact HB.out | apply below_alloc | apply pw_below_drewN | apply below_drew1) | exact HB.out)) hb); have n2_ := Aside0.mk (hbox); have n3_ := Aside0.mk ((by rw [hg]; exact (below_size (by repeat (first | (with_reducible first | exact HB.out | apply below_alloc | apply pw_below_drewN | apply below_drew1) | exact HB.out))) : w.heap.size ≤ gb376)); have n4_ := Aside0.mk ((by rw [hg]; exact (below_size (by repeat (first | (with_reducible first | exact HB.out | apply below_alloc | apply pw_below_drewN | apply below_drew1) | exact HB.out))) : w.heap.size ≤ gb376)); clear HO_5; clear HB; have HO_5 := n0_; have HB := n1_; have BK376 := n2_; have GW376 := n3_; have GE376 := n4_; clear n0_ n1_ n2_ n3_ n4_; clear hb hbox hg; have hcz26_0 : w25.cell? ⟨gb376, 0, none⟩ = some (.string (⟨#[]⟩ : ByteArray)) := (blk_cell BK376.out 0).trans rfl; have hcz26_1 : w25.cell? ⟨gb376, 1, none⟩ = some (.string (⟨#[]⟩ : ByteArray)) := (blk_cell BK376.out 1).trans rfl; have hfz26_0 := blk_frozen BK376.out 0; have hfz26_1 := blk_frozen BK376.out 1; obtain ⟨Ao27, co27, eo27⟩ := Kd.R_slice HO_5.out; subst eo27; have p377 : 0 ≤ (x6_2 : Int) := of_decide_eq_true (by first | (with_reducible assumption) | assumption); have q377 : x6_2 < (t372.length : Int) := of_decide_eq_true (by first | (with_reducible assumption) | assumption); obtain ⟨ad377, e377, hx377_0⟩ := Kd.at_string (Kd.R_reads' HO_5.out).2.2 x6_2 p377 q377; cases e377; have hn377_0 : ad377.block ≠ gb376 := Kd.own_blk (Kd.R_ne HO_5.out BK376.out (by decide)); have hn377_1 : ad377.block ≠ gb376 := Kd.own_blk (Kd.R_ne HO_5.out BK376.out (by decide)); replace hx377_0 := (cell_far (p := ⟨gb376, 0, none⟩) (by first | (rw [add_block]; exact hn377_0) | (show (Addr.add _ _).block ≠ _; rw [add_block]; exact hn377_0) | exact hn377_0) (.string ((rd_T27 l0 x24_2).f0))).trans hx377_0; replace hx377_0 := (cell_far (p := ⟨gb376, 1, none⟩) (by first | (rw [add_block]; exact hn377_1) | (show (Addr.add _ _).block ≠ _; rw [add_block]; exact hn377_1) | exact hn377_1) (.string ((rd_T27 l0 x24_2).f1))).trans hx377_0; (try have hy377_0 := fun (n_ : Nat) => (show ((((w25.drewN n_).setCell ⟨gb376, 0, none⟩ (.string ((rd_T27 l0 x24_2).f0))).setCell ⟨gb376, 1, none⟩ (.string ((rd_T27 l0 x24_2).f1)))).cell? _ = some _ from hx377_0)); clear hn377_0; clear hn377_1; replace p377 := eq_true p377; replace q377 := eq_true q377))
                              repeat (go_quiet (first | ((with_reducible refine gate_dst (N := 8) rfl ?_); (try (refine gate_guard (by rfl) ?_; dsimp only)); refine box_event ?hg (N := 8) ?hd (cs := #[.string (⟨#[]⟩ : ByteArray), .string (⟨#[]⟩ : ByteArray)]) (t := 27) ?hr ?_; (case hd => rfl); (case hg => rfl); (case hr => first | (go_simp; done) | (go_simp; rfl)); intro gb376 hg w25 hbox hb; have n0_ := Aside0.mk (Kd.R_below (by (with_reducible repeat (first | apply Kd.R_alloc | apply Kd.R_drewN | apply Kd.R_drew)); exact HO_5.out) hb); have n1_ := Aside0.mk (below_step (by repeat (first | (with_reducible first | exact HB.out | apply below_alloc | apply pw_below_drewN | apply below_drew1) | exact HB.out)) hb); have n2_ := Aside0.mk (hbox); have n3_ := Aside0.mk ((by rw [hg]; exact (below_size (by repeat (first | (with_reducible first | exact HB.out | apply below_alloc | apply pw_below_drewN | apply below_drew1) | exact HB.out))) : w.heap.size ≤ gb376)); have n4_ := Aside0.mk ((by rw [hg]; exact (below_size (by repeat (first | (with_reducible first | exact HB.out | apply below_alloc | apply pw_below_drewN | apply below_drew1) | exact HB.out))) : w.heap.size ≤ gb376)); clear HO_5; clear HB; have HO_5 := n0_; have HB := n1_; have BK376 := n2_; have GW376 := n3_; have GE376 := n4_; clear n0_ n1_ n2_ n3_ n4_; clear hb hbox hg; have hcz26_0 : w25.cell? ⟨gb376, 0, none⟩ = some (.string (⟨#[]⟩ : ByteArray)) := (blk_cell BK376.out 0).trans rfl; have hcz26_1 : w25.cell? ⟨gb376, 1, none⟩ = some (.string (⟨#[]⟩ : ByteArray)) := (blk_cell BK376.out 1).trans rfl; have hfz26_0 := blk_frozen BK376.out 0; have hfz26_1 := blk_frozen BK376.out 1; obtain ⟨Ao27, co27, eo27⟩ := Kd.R_slice HO_5.out; subst eo27; have p377 : 0 ≤ (x6_2 : Int) := of_decide_eq_true (by first | (with_reducible assumption) | assumption); have q377 : x6_2 < (t372.length : Int) := of_decide_eq_true (by first | (with_reducible assumption) | assumption); obtain ⟨ad377, e377, hx377_0⟩ := Kd.at_string (Kd.R_reads' HO_5.out).2.2 x6_2 p377 q377; cases e377; have hn377_0 : ad377.block ≠ gb376 := Kd.own_blk (Kd.R_ne HO_5.out BK376.out (by decide)); have hn377_1 : ad377.block ≠ gb376 := Kd.own_blk (Kd.R_ne HO_5.out BK376.out (by decide)); replace hx377_0 := (cell_far (p := ⟨gb376, 0, none⟩) (by first | (rw [add_block]; exact hn377_0) | (show (Addr.add _ _).block ≠ _; rw [add_block]; exact hn377_0) | exact hn377_0) (.string ((rd_T27 l0 x24_2).f0))).trans hx377_0; replace hx377_0 := (cell_far (p := ⟨gb376, 1, none⟩) (by first | (rw [add_block]; exact hn377_1) | (show (Addr.add _ _).block ≠ _; rw [add_block]; exact hn377_1) | exact hn377_1) (.string ((rd_T27 l0 x24_2).f1))).trans hx377_0; (try have hy377_0 := fun (n_ : Nat) => (show ((((w25.drewN n_).setCell ⟨gb376, 0, none⟩ (.string ((rd_T27 l0 x24_2).f0))).setCell ⟨gb376, 1, none⟩ (.string ((rd_T27 l0 x24_2).f1)))).cell? _ = some _ from hx377_0)); clear hn377_0; clear hn377_1; replace p377 := eq_true p377; replace q377 := eq_true q377)); try go_wp2_with (first | ((with_reducible refine gate_dst (N := 8) rfl ?_); (try (refine gate_guard (by rfl) ?_; dsimp only)); refine box_event ?hg (N := 8) ?hd (cs := #[.string (⟨#[]⟩ : ByteArray), .string (⟨#[]⟩ : ByteArray)]) (t := 27) ?hr ?_; (case hd => rfl); (case hg => rfl); (case hr => first | (go_simp; done) | (go_simp; rfl)); intro gb376 hg w25 hbox hb; have n0_ := Aside0.mk (Kd.R_below (by (with_reducible repeat (first | apply Kd.R_alloc | apply Kd.R_drewN | apply Kd.R_drew)); exact HO_5.out) hb); have n1_ := Aside0.mk (below_step (by repeat (first | (with_reducible first | exact HB.out | apply below_alloc | apply pw_below_drewN | apply below_drew1) | exact HB.out)) hb); have n2_ := Aside0.mk (hbox); have n3_ := Aside0.mk ((by rw [hg]; exact (below_size (by repeat (first | (with_reducible first | exact HB.out | apply below_alloc | apply pw_below_drewN | apply below_drew1) | exact HB.out))) : w.heap.size ≤ gb376)); have n4_ := Aside0.mk ((by rw [hg]; exact (below_size (by repeat (first | (with_reducible first | exact HB.out | apply below_alloc | apply pw_below_drewN | apply below_drew1) | exact HB.out))) : w.heap.size ≤ gb376)); clear HO_5; clear HB; have HO_5 := n0_; have HB := n1_; have BK376 := n2_; have GW376 := n3_; have GE376 := n4_; clear n0_ n1_ n2_ n3_ n4_; clear hb hbox hg; have hcz26_0 : w25.cell? ⟨gb376, 0, none⟩ = some (.string (⟨#[]⟩ : ByteArray)) := (blk_cell BK376.out 0).trans rfl; have hcz26_1 : w25.cell? ⟨gb376, 1, none⟩ = some (.string (⟨#[]⟩ : ByteArray)) := (blk_cell BK376.out 1).trans rfl; have hfz26_0 := blk_frozen BK376.out 0; have hfz26_1 := blk_frozen BK376.out 1; obtain ⟨Ao27, co27, eo27⟩ := Kd.R_slice HO_5.out; subst eo27; have p377 : 0 ≤ (x6_2 : Int) := of_decide_eq_true (by first | (with_reducible assumption) | assumption); have q377 : x6_2 < (t372.length : Int) := of_decide_eq_true (by first | (with_reducible assumption) | assumption); obtain ⟨ad377, e377, hx377_0⟩ := Kd.at_string (Kd.R_reads' HO_5.out).2.2 x6_2 p377 q377; cases e377; have hn377_0 : ad377.block ≠ gb376 := Kd.own_blk (Kd.R_ne HO_5.out BK376.out (by decide)); have hn377_1 : ad377.block ≠ gb376 := Kd.own_blk (Kd.R_ne HO_5.out BK376.out (by decide)); replace hx377_0 := (cell_far (p := ⟨gb376, 0, none⟩) (by first | (rw [add_block]; exact hn377_0) | (show (Addr.add _ _).block ≠ _; rw [add_block]; exact hn377_0) | exact hn377_0) (.string ((rd_T27 l0 x24_2).f0))).trans hx377_0; replace hx377_0 := (cell_far (p := ⟨gb376, 1, none⟩) (by first | (rw [add_block]; exact hn377_1) | (show (Addr.add _ _).block ≠ _; rw [add_block]; exact hn377_1) | exact hn377_1) (.string ((rd_T27 l0 x24_2).f1))).trans hx377_0; (try have hy377_0 := fun (n_ : Nat) => (show ((((w25.drewN n_).setCell ⟨gb376, 0, none⟩ (.string ((rd_T27 l0 x24_2).f0))).setCell ⟨gb376, 1, none⟩ (.string ((rd_T27 l0 x24_2).f1)))).cell? _ = some _ from hx377_0)); clear hn377_0; clear hn377_1; replace p377 := eq_true p377; replace q377 := eq_true q377)))
                              go_ret
                              exact ⟨by first | rfl | (simp [errW_none, errW_some] <;> rfl) | (simp [*, errW_none, errW_some] <;> rfl), by repeat (first | (with_reducible first | exact HB.out | apply below_alloc | apply pw_below_drewN | apply below_drew1 | refine below_set ?_ GE376.out) | exact HB.out)⟩
                          · rw [if_neg c20] at H
                            exact absurd H (by simp)
                        · rw [if_neg c19] at H
                          exact absurd H (by simp)
                    · rw [if_neg c14] at H
                      have c14b0 : (((rd_T27 l0 x24_2).f0).toList == a1.toList) = false := beq_eq_false_iff_ne.mpr c14
                      have c14b1 : (((rd_T27 l0 x24_2).f0).toList != a1.toList) = true := bne_iff_ne.mpr c14
                      have H' := Aside0.mk H
                      clear H
                      have p375 : 0 ≤ (x24_2 : Int) := of_decide_eq_true (by first | (with_reducible assumption) | assumption)
                      have q375 : x24_2 < (l0.length : Int) := of_decide_eq_true (by first | (with_reducible assumption) | assumption)
                      obtain ⟨ad375, e375, hx375_0, hx375_1⟩ := at_T27 HR0.out x24_2 p375 q375
                      cases e375
                      replace hx375_0 := (HB.out.cell (World.block_lt_of_cell? w _ hx375_0)).trans hx375_0
                      replace hx375_1 := (HB.out.cell (World.block_lt_of_cell? w _ hx375_1)).trans hx375_1
                      replace p375 := eq_true p375
                      replace q375 := eq_true q375
                      go_wp2_with (first | ((with_reducible refine gate_dst (N := 8) rfl ?_); (try (refine gate_guard (by rfl) ?_; dsimp only)); refine box_event ?hg (N := 8) ?hd (cs := #[.string (⟨#[]⟩ : ByteArray), .string (⟨#[]⟩ : ByteArray)]) (t := 27) ?hr ?_; (case hd => rfl); (case hg => rfl); (case hr => first | (go_simp; done) | (go_simp; rfl)); intro gb376 hg w28 hbox hb; have n0_ := Aside0.mk (Kd.R_below (by (with_reducible repeat (first | apply Kd.R_alloc | apply Kd.R_drewN | apply Kd.R_drew)); exact HO_5.out) hb); have n1_ := Aside0.mk (below_step (by repeat (first | (with_reducible first | exact HB.out | apply below_alloc | apply pw_below_drewN | apply below_drew1) | exact HB.out)) hb); have n2_ := Aside0.mk (hbox); have n3_ := Aside0.mk ((by rw [hg]; exact (below_size (by repeat (first | (with_reducible first | exact HB.out | apply below_alloc | apply pw_below_drewN | apply below_drew1) | exact HB.out))) : w.heap.size ≤ gb376)); have n4_ := Aside0.mk ((by rw [hg]; exact (below_size (by repeat (first | (with_reducible first | exact HB.out | apply below_alloc | apply pw_below_drewN | apply below_drew1) | exact HB.out))) : w.heap.size ≤ gb376)); clear HO_5; clear HB; have HO_5 := n0_; have HB := n1_; have BK376 := n2_; have GW376 := n3_; have GE376 := n4_; clear n0_ n1_ n2_ n3_ n4_; clear hb hbox hg; have hcz29_0 : w28.cell? ⟨gb376, 0, none⟩ = some (.string (⟨#[]⟩ : ByteArray)) := (blk_cell BK376.out 0).trans rfl; have hcz29_1 : w28.cell? ⟨gb376, 1, none⟩ = some (.string (⟨#[]⟩ : ByteArray)) := (blk_cell BK376.out 1).trans rfl; have hfz29_0 := blk_frozen BK376.out 0; have hfz29_1 := blk_frozen BK376.out 1))
                      repeat (go_quiet (first | ((with_reducible refine gate_dst (N := 8) rfl ?_); (try (refine gate_guard (by rfl) ?_; dsimp only)); refine box_event ?hg (N := 8) ?hd (cs := #[.string (⟨#[]⟩ : ByteArray), .string (⟨#[]⟩ : ByteArray)]) (t := 27) ?hr ?_; (case hd => rfl); (case hg => rfl); (case hr => first | (go_simp; done) | (go_simp; rfl)); intro gb376 hg w28 hbox hb; have n0_ := Aside0.mk (Kd.R_below (by (with_reducible repeat (first | apply Kd.R_alloc | apply Kd.R_drewN | apply Kd.R_drew)); exact HO_5.out) hb); have n1_ := Aside0.mk (below_step (by repeat (first | (with_reducible first | exact HB.out | apply below_alloc | apply pw_below_drewN | apply below_drew1) | exact HB.out)) hb); have n2_ := Aside0.mk (hbox); have n3_ := Aside0.mk ((by rw [hg]; exact (below_size (by repeat (first | (with_reducible first | exact HB.out | apply below_alloc | apply pw_below_drewN | apply below_drew1) | exact HB.out))) : w.heap.size ≤ gb376)); have n4_ := Aside0.mk ((by rw [hg]; exact (below_size (by repeat (first | (with_reducible first | exact HB.out | apply below_alloc | apply pw_below_drewN | apply below_drew1) | exact HB.out))) : w.heap.size ≤ gb376)); clear HO_5; clear HB; have HO_5 := n0_; have HB := n1_; have BK376 := n2_; have GW376 := n3_; have GE376 := n4_; clear n0_ n1_ n2_ n3_ n4_; clear hb hbox hg; have hcz29_0 : w28.cell? ⟨gb376, 0, none⟩ = some (.string (⟨#[]⟩ : ByteArray)) := (blk_cell BK376.out 0).trans rfl; have hcz29_1 : w28.cell? ⟨gb376, 1, none⟩ = some (.string (⟨#[]⟩ : ByteArray)) := (blk_cell BK376.out 1).trans rfl; have hfz29_0 := blk_frozen BK376.out 0; have hfz29_1 := blk_frozen BK376.out 1)); try go_wp2_with (first | ((with_reducible refine gate_dst (N := 8) rfl ?_); (try (refine gate_guard (by rfl) ?_; dsimp only)); refine box_event ?hg (N := 8) ?hd (cs := #[.string (⟨#[]⟩ : ByteArray), .string (⟨#[]⟩ : ByteArray)]) (t := 27) ?hr ?_; (case hd => rfl); (case hg => rfl); (case hr => first | (go_simp; done) | (go_simp; rfl)); intro gb376 hg w28 hbox hb; have n0_ := Aside0.mk (Kd.R_below (by (with_reducible repeat (first | apply Kd.R_alloc | apply Kd.R_drewN | apply Kd.R_drew)); exact HO_5.out) hb); have n1_ := Aside0.mk (below_step (by repeat (first | (with_reducible first | exact HB.out | apply below_alloc | apply pw_below_drewN | apply below_drew1) | exact HB.out)) hb); have n2_ := Aside0.mk (hbox); have n3_ := Aside0.mk ((by rw [hg]; exact (below_size (by repeat (first | (with_reducible first | exact HB.out | apply below_alloc | apply pw_below_drewN | apply below_drew1) | exact HB.out))) : w.heap.size ≤ gb376)); have n4_ := Aside0.mk ((by rw [hg]; exact (below_size (by repeat (first | (with_reducible first | exact HB.out | apply below_alloc | apply pw_below_drewN | apply below_drew1) | exact HB.out))) : w.heap.size ≤ gb376)); clear HO_5; clear HB; have HO_5 := n0_; have HB := n1_; have BK376 := n2_; have GW376 := n3_; have GE376 := n4_; clear n0_ n1_ n2_ n3_ n4_; clear hb hbox hg; have hcz29_0 : w28.cell? ⟨gb376, 0, none⟩ = some (.string (⟨#[]⟩ : ByteArray)) := (blk_cell BK376.out 0).trans rfl; have hcz29_1 : w28.cell? ⟨gb376, 1, none⟩ = some (.string (⟨#[]⟩ : ByteArray)) := (blk_cell BK376.out 1).trans rfl; have hfz29_0 := blk_frozen BK376.out 0; have hfz29_1 := blk_frozen BK376.out 1)))
                      go_roundg k2
                      case measure => have := HJ4.out; have := HK2.out; omega
                      case rel => exact ⟨(x6_2), (wrap64 (x24_2 + 1)), (by first | rfl | (simp; done) | (simp [*]; done)), (by first | rfl | (simp; done) | (simp [*]; done)), H', ⟨by have := HJ4.out; have := HK2.out; omega⟩, ⟨by (with_reducible repeat (first | apply Kd.R_alloc | apply Kd.R_drewN | apply Kd.R_drew)); exact Kd.R_mono (Kd.R_far (p := ⟨gb376, 1, none⟩) (Kd.R_far (p := ⟨gb376, 0, none⟩) (Kd.R_types HO_5.out BK376.out (by decide)) (fun _ hk => hk.2) (.string ((rd_T27 l0 x24_2).f0))) (fun _ hk => hk.2) (.string ((rd_T27 l0 x24_2).f1))) (fun _ hk => trivial)⟩, ⟨by repeat (first | (with_reducible first | exact HB.out | apply below_alloc | apply pw_below_drewN | apply below_drew1 | refine below_set ?_ GE376.out) | exact HB.out)⟩⟩
                  · rw [if_neg c13] at H
                    exact absurd H (by simp)
                · rw [if_neg c12] at H
                  exact absurd H (by simp)
              · rw [if_neg c11] at H
                have c11b0 : decide (x24_2 < (l0.length : Int)) = false := decide_eq_false c11
                clear c11
                obtain rfl := Option.some.inj H
                obtain ⟨Ao30, co30, eo30⟩ := Kd.R_slice HO_5.out
                subst eo30
                go_wp2
                repeat (go_quiet (fail); try go_wp2)
                go_ret
                exact ⟨by first | rfl | (simp [errW_none, errW_some] <;> rfl) | (simp [*, errW_none, errW_some] <;> rfl), by repeat (first | (with_reducible first | exact HB.out | apply below_alloc | apply pw_below_drewN | apply below_drew1) | exact HB.out)⟩
  · replace c4 := Bool.eq_false_iff.mpr c4
    subst c4
    have H1 : (some false) = some r := by rw [if_neg (show ¬ (false = true) by decide)] at H; exact H
    clear H
    have H := H1
    clear H1
    obtain rfl := Option.some.inj H
    go_enter Try.func3, Try.ntmps3
    go_wp2_with (first | (go_at_call 9; (with_reducible refine (crossroadlaw02_fit.calls k  false _ A3.out).mono ?_); rintro e w31 ⟨rfl, hb⟩; have n0_ := Aside0.mk (below_step (by repeat (first | (with_reducible first | exact HB.out | apply below_alloc | apply pw_below_drewN | apply below_drew1) | exact HB.out)) hb); clear HB; have HB := n0_; clear n0_; (try clear hb); (try clear hb2); (try clear hk); (try clear hi)))
    repeat (go_quiet (first | (go_at_call 9; (with_reducible refine (crossroadlaw02_fit.calls k  false _ A3.out).mono ?_); rintro e w31 ⟨rfl, hb⟩; have n0_ := Aside0.mk (below_step (by repeat (first | (with_reducible first | exact HB.out | apply below_alloc | apply pw_below_drewN | apply below_drew1) | exact HB.out)) hb); clear HB; have HB := n0_; clear n0_; (try clear hb); (try clear hb2); (try clear hk); (try clear hi))); try go_wp2_with (first | (go_at_call 9; (with_reducible refine (crossroadlaw02_fit.calls k  false _ A3.out).mono ?_); rintro e w31 ⟨rfl, hb⟩; have n0_ := Aside0.mk (below_step (by repeat (first | (with_reducible first | exact HB.out | apply below_alloc | apply pw_below_drewN | apply below_drew1) | exact HB.out)) hb); clear HB; have HB := n0_; clear n0_; (try clear hb); (try clear hb2); (try clear hk); (try clear hi))))
    go_ret
    exact ⟨by first | rfl | (simp [errW_none, errW_some] <;> rfl) | (simp [*, errW_none, errW_some] <;> rfl), by repeat (first | (with_reducible first | exact HB.out | apply below_alloc | apply pw_below_drewN | apply below_drew1) | exact HB.out)⟩

end Go.Proofs.Ytaafeojjcfognaa.X

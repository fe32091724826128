-- Written for this claim by a program of this session (wip/xprint.py). Not trusted: Lean checks it.
import Derived.Test.YtldaingkcnmaoaaX0
import Derived.Test.YtldaingkcnmaoaaX17
import Derived.Test.YtldaingkcnmaoaaX19
namespace Go.Proofs.Ytldaingkcnmaoaa.X
open Go.RowKit Go.Proofs.YtldaingkcnmaoaaW.PrintWords Go.Proofs.YtldaingkcnmaoaaW.PrintLast Go.Proofs.YtldaingkcnmaoaaW.PrintMore
attribute [local go_sem] max2_int min2_int max_two min_two max_three min_three max_four min_four   -- for this text's walks alone
set_option linter.unusedVariables false
set_option linter.unusedSimpArgs false

/-! ### crossroadlaw04_CutterGrows: function 4 -/
mutual
def crossroadlaw04_CutterGrows.j0 : Nat → List (S30) → List (S30) → Bool → Option (Bool)
  | 0, _, _, _ => none
  | k + 1, x5, x7, x53 => if x53 = true then (some false) else (crossroadlaw04_CutterGrows.l0 k x5 x7 (x5.length : Int) 0)
def crossroadlaw04_CutterGrows.l0 : Nat → List (S30) → List (S30) → Int → Int → Option (Bool)
  | 0, _, _, _, _ => none
  | k + 1, x5, x7, x55, x56 => if x56 < x55 then (if 0 ≤ x56 then (if x56 < (x5.length : Int) then (if x56 < (x7.length : Int) then ((crossroadlaw04_Same.f k ((rd_T30 x5 x56).f0) ((rd_T30 x5 x56).f1) ((rd_T30 x5 x56).f2) ((rd_T30 x5 x56).f3) ((rd_T30 x5 x56).f4) ((rd_T30 x7 x56).f0) ((rd_T30 x7 x56).f1) ((rd_T30 x7 x56).f2) ((rd_T30 x7 x56).f3) ((rd_T30 x7 x56).f4)).bind fun t301 => (if t301 = true then (crossroadlaw04_CutterGrows.l0 k x5 x7 x55 (wrap64 (x56 + 1))) else (some false))) else (none)) else (none)) else (none)) else (some true)
end
def crossroadlaw04_CutterGrows.f (k : Nat) (a0 : ByteArray) (a1 : Int) : Option (Bool) := (crossroadlaw04_fit.f k).bind fun t290 => (if t290 = true then (if (a0.size : Int) > 5000 then (some true) else (if (wrap64 ((a0.size : Int) + 1)) = 0 then (none) else (if 0 ≤ (Int.tmod (Go.bits .and .i64 a1 65535) (wrap64 ((a0.size : Int) + 1))) then (if (Int.tmod (Go.bits .and .i64 a1 65535) (wrap64 ((a0.size : Int) + 1))) ≤ (a0.size : Int) then ((cutter_All.f k (a0.extract 0 ((Int.tmod (Go.bits .and .i64 a1 65535) (wrap64 ((a0.size : Int) + 1))) : Int).toNat)).bind fun bt291 => ((cutter_All.f k a0).bind fun bt295 => (if (bt291.1.length : Int) > (bt295.1.length : Int) then (crossroadlaw04_CutterGrows.j0 k bt291.1 bt295.1 true) else (if bt291.2 = 0 then (crossroadlaw04_CutterGrows.j0 k bt291.1 bt295.1 false) else (if bt291.2 = bt295.2 then (crossroadlaw04_CutterGrows.j0 k bt291.1 bt295.1 ((bt291.1.length : Int) != (bt295.1.length : Int))) else (crossroadlaw04_CutterGrows.j0 k bt291.1 bt295.1 true)))))) else (none)) else (none)))) else (some false))
theorem crossroadlaw04_CutterGrows.mono_l : ∀ k, (∀ y0 y1 y2, LeO (crossroadlaw04_CutterGrows.j0 k y0 y1 y2) (crossroadlaw04_CutterGrows.j0 (k + 1) y0 y1 y2)) ∧ (∀ y0 y1 y2 y3, LeO (crossroadlaw04_CutterGrows.l0 k y0 y1 y2 y3) (crossroadlaw04_CutterGrows.l0 (k + 1) y0 y1 y2 y3))
  | 0 => ⟨fun _ _ _ r h => by simp [crossroadlaw04_CutterGrows.j0] at h, fun _ _ _ _ r h => by simp [crossroadlaw04_CutterGrows.l0] at h⟩
  | k + 1 => by
    obtain ⟨ih0, ih1⟩ := crossroadlaw04_CutterGrows.mono_l k
    refine ⟨?_, ?_⟩
    · intro y0 y1 y2
      unfold crossroadlaw04_CutterGrows.j0
      repeat' first
      | (with_reducible exact ih0 _ _ _)
      | (with_reducible exact ih1 _ _ _ _)
      | (with_reducible exact crossroadlaw04_Same.mono _ _ _ _ _ _ _ _ _ _ _)
      | (with_reducible exact crossroadlaw04_fit.mono _)
      | (with_reducible exact cutter_All.mono _ _)
      | (with_reducible exact LeO.refl _)
      | (with_reducible exact LeO.none _)
      | (with_reducible refine LeO.ite ?_ ?_)
      | (with_reducible refine LeO.bind ?_ (fun _ => ?_))
      | exact ih0 _ _ _
      | exact ih1 _ _ _ _
      | exact crossroadlaw04_Same.mono _ _ _ _ _ _ _ _ _ _ _
      | exact crossroadlaw04_fit.mono _
      | exact cutter_All.mono _ _
      | exact LeO.none _
      | refine LeO.ite ?_ ?_
      | refine LeO.bind ?_ (fun _ => ?_)
    · intro y0 y1 y2 y3
      unfold crossroadlaw04_CutterGrows.l0
      repeat' first
      | (with_reducible exact ih0 _ _ _)
      | (with_reducible exact ih1 _ _ _ _)
      | (with_reducible exact crossroadlaw04_Same.mono _ _ _ _ _ _ _ _ _ _ _)
      | (with_reducible exact crossroadlaw04_fit.mono _)
      | (with_reducible exact cutter_All.mono _ _)
      | (with_reducible exact LeO.refl _)
      | (with_reducible exact LeO.none _)
      | (with_reducible refine LeO.ite ?_ ?_)
      | (with_reducible refine LeO.bind ?_ (fun _ => ?_))
      | exact ih0 _ _ _
      | exact ih1 _ _ _ _
      | exact crossroadlaw04_Same.mono _ _ _ _ _ _ _ _ _ _ _
      | exact crossroadlaw04_fit.mono _
      | exact cutter_All.mono _ _
      | exact LeO.none _
      | refine LeO.ite ?_ ?_
      | refine LeO.bind ?_ (fun _ => ?_)
theorem crossroadlaw04_CutterGrows.mono : ∀ a0 a1 k, LeO (crossroadlaw04_CutterGrows.f k a0 a1) (crossroadlaw04_CutterGrows.f (k + 1) a0 a1) := by
  intro a0 a1 k
  obtain ⟨ih0, ih1⟩ := crossroadlaw04_CutterGrows.mono_l k
  unfold crossroadlaw04_CutterGrows.f
  repeat' first
      | (with_reducible exact ih0 _ _ _)
      | (with_reducible exact ih1 _ _ _ _)
      | (with_reducible exact crossroadlaw04_Same.mono _ _ _ _ _ _ _ _ _ _ _)
      | (with_reducible exact crossroadlaw04_fit.mono _)
      | (with_reducible exact cutter_All.mono _ _)
      | (with_reducible exact LeO.refl _)
      | (with_reducible exact LeO.none _)
      | (with_reducible refine LeO.ite ?_ ?_)
      | (with_reducible refine LeO.bind ?_ (fun _ => ?_))
      | exact ih0 _ _ _
      | exact ih1 _ _ _ _
      | exact crossroadlaw04_Same.mono _ _ _ _ _ _ _ _ _ _ _
      | exact crossroadlaw04_fit.mono _
      | exact cutter_All.mono _ _
      | exact LeO.none _
      | refine LeO.ite ?_ ?_
      | refine LeO.bind ?_ (fun _ => ?_)
def crossroadlaw04_CutterGrows.T13 : Bool × List (List Nat × List Nat) := (true, [([], []), ([], []), ([0, 1], [0, 1]), ([2], [2]), ([], []), ([], []), ([4, 5], [4, 5]), ([6], [6]), ([3, 7], [3, 7]), ([8], [8])])
def crossroadlaw04_CutterGrows.B13 : List Nat := [0, 0, 3, 7, 0, 0, 48, 112, 255, 511]
theorem crossroadlaw04_CutterGrows.tab13 : rtab .any (opsOf Try.f4 13) = crossroadlaw04_CutterGrows.T13 := by kernel_rfl
theorem crossroadlaw04_CutterGrows.bits13 : waitsOk crossroadlaw04_CutterGrows.T13.2 crossroadlaw04_CutterGrows.B13 = true := by kernel_rfl
set_option maxHeartbeats 8000000 in
set_option maxRecDepth 100000 in
theorem crossroadlaw04_CutterGrows.calls (k : Nat) (a0 : ByteArray) (a1 : Int) (r : Bool) (w : World) (h : crossroadlaw04_CutterGrows.f k a0 a1 = some r) :
    Calls Try.prog 4 #[.string a0, .int .i64 a1] w fun e w' => e = .returned (.bool r) ∧ Below w.heap.size w w' := by
  have hu30 := Try.underlying30
  have HB := Aside0.mk (Below.refl w.heap.size w)
  have H : ((crossroadlaw04_fit.f k).bind fun t290 => (if t290 = true then (if (a0.size : Int) > 5000 then (some true) else (if (wrap64 ((a0.size : Int) + 1)) = 0 then (none) else (if 0 ≤ (Int.tmod (Go.bits .and .i64 a1 65535) (wrap64 ((a0.size : Int) + 1))) then (if (Int.tmod (Go.bits .and .i64 a1 65535) (wrap64 ((a0.size : Int) + 1))) ≤ (a0.size : Int) then ((cutter_All.f k (a0.extract 0 ((Int.tmod (Go.bits .and .i64 a1 65535) (wrap64 ((a0.size : Int) + 1))) : Int).toNat)).bind fun bt291 => ((cutter_All.f k a0).bind fun bt295 => (if (bt291.1.length : Int) > (bt295.1.length : Int) then (crossroadlaw04_CutterGrows.j0 k bt291.1 bt295.1 true) else (if bt291.2 = 0 then (crossroadlaw04_CutterGrows.j0 k bt291.1 bt295.1 false) else (if bt291.2 = bt295.2 then (crossroadlaw04_CutterGrows.j0 k bt291.1 bt295.1 ((bt291.1.length : Int) != (bt295.1.length : Int))) else (crossroadlaw04_CutterGrows.j0 k bt291.1 bt295.1 true)))))) else (none)) else (none)))) else (some false))) = some r := h
  clear h
  replace H := Option.bind_eq_some_iff.mp H
  obtain ⟨t290, A30, H⟩ := H
  replace H : (if t290 = true then (if (a0.size : Int) > 5000 then (some true) else (if (wrap64 ((a0.size : Int) + 1)) = 0 then (none) else (if 0 ≤ (Int.tmod (Go.bits .and .i64 a1 65535) (wrap64 ((a0.size : Int) + 1))) then (if (Int.tmod (Go.bits .and .i64 a1 65535) (wrap64 ((a0.size : Int) + 1))) ≤ (a0.size : Int) then ((cutter_All.f k (a0.extract 0 ((Int.tmod (Go.bits .and .i64 a1 65535) (wrap64 ((a0.size : Int) + 1))) : Int).toNat)).bind fun bt291 => ((cutter_All.f k a0).bind fun bt295 => (if (bt291.1.length : Int) > (bt295.1.length : Int) then (crossroadlaw04_CutterGrows.j0 k bt291.1 bt295.1 true) else (if bt291.2 = 0 then (crossroadlaw04_CutterGrows.j0 k bt291.1 bt295.1 false) else (if bt291.2 = bt295.2 then (crossroadlaw04_CutterGrows.j0 k bt291.1 bt295.1 ((bt291.1.length : Int) != (bt295.1.length : Int))) else (crossroadlaw04_CutterGrows.j0 k bt291.1 bt295.1 true)))))) else (none)) else (none)))) else (some false)) = some r := H
  have A3 := Aside0.mk A30
  clear A30
  by_cases c4 : t290 = true
  · subst c4
    have H1 : (if (a0.size : Int) > 5000 then (some true) else (if (wrap64 ((a0.size : Int) + 1)) = 0 then (none) else (if 0 ≤ (Int.tmod (Go.bits .and .i64 a1 65535) (wrap64 ((a0.size : Int) + 1))) then (if (Int.tmod (Go.bits .and .i64 a1 65535) (wrap64 ((a0.size : Int) + 1))) ≤ (a0.size : Int) then ((cutter_All.f k (a0.extract 0 ((Int.tmod (Go.bits .and .i64 a1 65535) (wrap64 ((a0.size : Int) + 1))) : Int).toNat)).bind fun bt291 => ((cutter_All.f k a0).bind fun bt295 => (if (bt291.1.length : Int) > (bt295.1.length : Int) then (crossroadlaw04_CutterGrows.j0 k bt291.1 bt295.1 true) else (if bt291.2 = 0 then (crossroadlaw04_CutterGrows.j0 k bt291.1 bt295.1 false) else (if bt291.2 = bt295.2 then (crossroadlaw04_CutterGrows.j0 k bt291.1 bt295.1 ((bt291.1.length : Int) != (bt295.1.length : Int))) else (crossroadlaw04_CutterGrows.j0 k bt291.1 bt295.1 true)))))) else (none)) else (none)))) = some r := by rw [if_pos rfl] at H; exact H
    clear H
    have H := H1
    clear H1
    by_cases c5 : (a0.size : Int) > 5000
    · rw [if_pos c5] at H
      have c5b0 : decide (5000 < (a0.size : Int)) = true := decide_eq_true c5
      have c5b1 : decide (5000 < a0.size) = true := decide_eq_true (by omega)
      clear c5
      obtain rfl := Option.some.inj H
      go_enter Try.func4, Try.ntmps4
      go_wp2_with (first | ((with_reducible refine gate_callee (f := 5) rfl ?_); refine goesL_ (some 10) rfl rfl Try.func5 (by kernel_rfl) rfl #[] rfl (by (try simp only [List.map_toArray, List.map_cons, List.map_nil]); first | done | rfl | (simp only [List.length_drop, List.length_take]; rfl)) ?_; (with_reducible refine (crossroadlaw04_fit.calls k  true _ A3.out).mono ?_); rintro e w6 ⟨rfl, hb⟩; refine ⟨_, rfl, ?_⟩; have n0_ := Aside0.mk (below_step (by repeat (first | (with_reducible first | exact HB.out | apply below_alloc | apply pw_below_drewN | apply below_drew1) | exact HB.out)) hb); clear HB; have HB := n0_; clear n0_; (try clear hb); (try clear hb2); (try clear hk); (try clear hi)))
      go_ret
      exact ⟨by first | rfl | (simp [errW_none, errW_some] <;> rfl) | (simp [*, errW_none, errW_some] <;> rfl), by repeat (first | (with_reducible first | exact HB.out | apply below_alloc | apply pw_below_drewN | apply below_drew1) | exact HB.out)⟩
    · rw [if_neg c5] at H
      have c5b0 : decide (5000 < (a0.size : Int)) = false := decide_eq_false c5
      have c5b1 : decide (5000 < a0.size) = false := decide_eq_false (by omega)
      clear c5
      by_cases c7 : (wrap64 ((a0.size : Int) + 1)) = 0
      · rw [if_pos c7] at H
        exact absurd H (by simp)
      · rw [if_neg c7] at H
        have c7b0 : ((wrap64 ((a0.size : Int) + 1)) == 0) = false := beq_eq_false_iff_ne.mpr c7
        have c7b1 : ((wrap64 ((a0.size : Int) + 1)) != 0) = true := bne_iff_ne.mpr c7
        obtain ⟨ji8, hji8⟩ : ∃ j_ : Int, (Int.tmod (Go.bits .and .i64 a1 65535) (wrap64 ((a0.size : Int) + 1))) = j_ := ⟨_, rfl⟩
        replace H : (if 0 ≤ (ji8) then (if (ji8) ≤ (a0.size : Int) then ((cutter_All.f k (a0.extract 0 ((ji8) : Int).toNat)).bind fun bt291 => ((cutter_All.f k a0).bind fun bt295 => (if (bt291.1.length : Int) > (bt295.1.length : Int) then (crossroadlaw04_CutterGrows.j0 k bt291.1 bt295.1 true) else (if bt291.2 = 0 then (crossroadlaw04_CutterGrows.j0 k bt291.1 bt295.1 false) else (if bt291.2 = bt295.2 then (crossroadlaw04_CutterGrows.j0 k bt291.1 bt295.1 ((bt291.1.length : Int) != (bt295.1.length : Int))) else (crossroadlaw04_CutterGrows.j0 k bt291.1 bt295.1 true)))))) else (none)) else (none)) = some r := by first | (rw [hji8] at H; exact H) | (simp only [hji8] at H ⊢; exact H)
        (try rw [hji8] at A3)
        by_cases c9 : 0 ≤ (ji8)
        · rw [if_pos c9] at H
          have c9b0 := eq_true c9
          have c9b1 : decide (0 ≤ (ji8)) = true := decide_eq_true c9
          clear c9
          by_cases c10 : (ji8) ≤ (a0.size : Int)
          · rw [if_pos c10] at H
            have c10b0 := eq_true c10
            have c10b1 : decide ((ji8) ≤ (a0.size : Int)) = true := decide_eq_true c10
            clear c10
            replace H := Option.bind_eq_some_iff.mp H
            obtain ⟨⟨t291, t292⟩, A110, H⟩ := H
            replace H : ((cutter_All.f k a0).bind fun bt295 => (if (t291.length : Int) > (bt295.1.length : Int) then (crossroadlaw04_CutterGrows.j0 k t291 bt295.1 true) else (if t292 = 0 then (crossroadlaw04_CutterGrows.j0 k t291 bt295.1 false) else (if t292 = bt295.2 then (crossroadlaw04_CutterGrows.j0 k t291 bt295.1 ((t291.length : Int) != (bt295.1.length : Int))) else (crossroadlaw04_CutterGrows.j0 k t291 bt295.1 true))))) = some r := H
            have A11 := Aside0.mk A110
            clear A110
            replace H := Option.bind_eq_some_iff.mp H
            obtain ⟨⟨t295, t296⟩, A120, H⟩ := H
            replace H : (if (t291.length : Int) > (t295.length : Int) then (crossroadlaw04_CutterGrows.j0 k t291 t295 true) else (if t292 = 0 then (crossroadlaw04_CutterGrows.j0 k t291 t295 false) else (if t292 = t296 then (crossroadlaw04_CutterGrows.j0 k t291 t295 ((t291.length : Int) != (t295.length : Int))) else (crossroadlaw04_CutterGrows.j0 k t291 t295 true)))) = some r := H
            have A12 := Aside0.mk A120
            clear A120
            have HC13 := Aside0.mk H
            clear H
            go_enter Try.func4, Try.ntmps4
            go_upto_region 8 with (first | ((with_reducible refine gate_callee (f := 5) rfl ?_); refine goesL_ (some 10) rfl rfl Try.func5 (by kernel_rfl) rfl #[] rfl (by (try simp only [List.map_toArray, List.map_cons, List.map_nil]); first | done | rfl | (simp only [List.length_drop, List.length_take]; rfl)) ?_; (with_reducible refine (crossroadlaw04_fit.calls k  true _ A3.out).mono ?_); rintro e w14 ⟨rfl, hb⟩; refine ⟨_, rfl, ?_⟩; have n0_ := Aside0.mk (below_step (by repeat (first | (with_reducible first | exact HB.out | apply below_alloc | apply pw_below_drewN | apply below_drew1) | exact HB.out)) hb); clear HB; have HB := n0_; clear n0_; (try clear hb); (try clear hb2); (try clear hk); (try clear hi)) | ((with_reducible refine gate_callee (f := 6) rfl ?_); refine goesL_ (some 25) rfl rfl Try.func6 (by kernel_rfl) rfl #[.string (a0.extract 0 ((ji8) : Int).toNat)] rfl (by (try simp only [List.map_toArray, List.map_cons, List.map_nil]); first | done | (simp only [hji8]; rfl) | rfl | (simp only [List.length_drop, List.length_take]; rfl)) ?_; (with_reducible refine (cutter_All.calls k (a0.extract 0 ((ji8) : Int).toNat) t291 t292 _ A11.out).mono ?_); rintro e w15 ⟨v293, rfl, ho0, hb⟩; refine ⟨_, rfl, ?_⟩; have n0_ := Aside0.mk (Kd.S_lower ho0 (below_size (by repeat (first | (with_reducible first | exact HB.out | apply below_alloc | apply pw_below_drewN | apply below_drew1) | exact HB.out)))); have n1_ := Aside0.mk (below_step (by repeat (first | (with_reducible first | exact HB.out | apply below_alloc | apply pw_below_drewN | apply below_drew1) | exact HB.out)) hb); clear HB; have HO294 := n0_; have HB := n1_; clear n0_ n1_; (try clear hb); (try clear hb2); (try clear hk); (try clear hi); (try clear ho0)) | ((with_reducible refine gate_callee (f := 6) rfl ?_); refine goesL_ (some 30) rfl rfl Try.func6 (by kernel_rfl) rfl #[.string a0] rfl (by (try simp only [List.map_toArray, List.map_cons, List.map_nil]); first | done | rfl | (simp only [List.length_drop, List.length_take]; rfl)) ?_; (with_reducible refine (cutter_All.calls k a0 t295 t296 _ A12.out).mono ?_); rintro e w16 ⟨v297, rfl, ho0, hb⟩; refine ⟨_, rfl, ?_⟩; have n0_ := Aside0.mk (Kd.S_elder' (by (with_reducible repeat (first | apply Kd.S_alloc | apply Kd.S_drewN | apply Kd.S_drew)); exact HO294.out) (Kd.S_base ho0) hb); have n1_ := Aside0.mk (Kd.S_lower (Kd.S_new' ho0 (Kd.S_lt (by (with_reducible repeat (first | apply Kd.S_alloc | apply Kd.S_drewN | apply Kd.S_drew)); exact HO294.out))) (below_size (by repeat (first | (with_reducible first | exact HB.out | apply below_alloc | apply pw_below_drewN | apply below_drew1) | exact HB.out)))); have n2_ := Aside0.mk (below_step (by repeat (first | (with_reducible first | exact HB.out | apply below_alloc | apply pw_below_drewN | apply below_drew1) | exact HB.out)) hb); clear HO294; clear HB; have HO294 := n0_; have HO298 := n1_; have HB := n2_; clear n0_ n1_ n2_; (try clear hb); (try clear hb2); (try clear hk); (try clear hi); (try clear ho0)))
            (try simp only [Act.put, List.setIfInBounds_toArray, List.set_cons_zero, List.set_cons_succ])
            go_cut [53] (fun v53 wc => ∃ (kq : Nat) (x53_12 : Bool), v53 = .bool x53_12 ∧ Aside0 (crossroadlaw04_CutterGrows.j0 kq t291 t295 x53_12 = some r) ∧ Aside0 (kq ≤ k) ∧ Aside0 (Kd.S k30 30 wc w.heap.size (fun k_ => some k_ ≠ (v297 : Value).ownBlock) v293 t291) ∧ Aside0 (Kd.S k30 30 wc w.heap.size (fun k_ => some k_ ≠ (v293 : Value).ownBlock) v297 t295) ∧ Aside0 (Below w.heap.size w wc))
            case first =>
              have H := HC13.out
              clear HC13
              by_cases c17 : (t291.length : Int) > (t295.length : Int)
              · rw [if_pos c17] at H
                have c17b0 : decide ((t295.length : Int) < (t291.length : Int)) = true := decide_eq_true c17
                have c17b1 : decide (t295.length < t291.length) = true := decide_eq_true (Int.ofNat_lt.mp c17)
                clear c17
                (first | rw [c17b0] | (simp only [i64_w, i32_w]; rw [c17b0]) | skip)
                have H' := Aside0.mk H
                clear H
                obtain ⟨Ao18, co18, eo18⟩ := Kd.S_slice HO294.out
                subst eo18
                obtain ⟨Ao19, co19, eo19⟩ := Kd.S_slice HO298.out
                subst eo19
                go_wp2
                go_meet
                case rel => exact ⟨_, (true), (by first | rfl | (simp; done) | (simp [*]; done)), H', ⟨by first | omega | exact Nat.le_refl _⟩, ⟨by (with_reducible repeat (first | apply Kd.S_alloc | apply Kd.S_drewN | apply Kd.S_drew)); exact Kd.S_mono HO294.out (fun _ hk => hk.2)⟩, ⟨by (with_reducible repeat (first | apply Kd.S_alloc | apply Kd.S_drewN | apply Kd.S_drew)); exact Kd.S_mono HO298.out (fun _ hk => hk.2)⟩, ⟨by repeat (first | (with_reducible first | exact HB.out | apply below_alloc | apply pw_below_drewN | apply below_drew1) | exact HB.out)⟩⟩
              · rw [if_neg c17] at H
                have c17b0 : decide ((t295.length : Int) < (t291.length : Int)) = false := decide_eq_false c17
                have c17b1 : decide (t295.length < t291.length) = false := decide_eq_false (fun h => c17 (Int.ofNat_lt.mpr h))
                clear c17
                (first | rw [c17b0] | (simp only [i64_w, i32_w]; rw [c17b0]) | skip)
                by_cases c20 : t292 = 0
                · rw [if_pos c20] at H
                  have c20b0 : (t292 == 0) = true := beq_iff_eq.mpr c20
                  have c20b1 : (t292 != 0) = false := bne_eq_false_iff_eq.mpr c20
                  clear c20
                  have H' := Aside0.mk H
                  clear H
                  obtain ⟨Ao21, co21, eo21⟩ := Kd.S_slice HO294.out
                  subst eo21
                  obtain ⟨Ao22, co22, eo22⟩ := Kd.S_slice HO298.out
                  subst eo22
                  go_wp2
                  go_meet
                  case rel => exact ⟨_, (false), (by first | rfl | (simp; done) | (simp [*]; done)), H', ⟨by first | omega | exact Nat.le_refl _⟩, ⟨by (with_reducible repeat (first | apply Kd.S_alloc | apply Kd.S_drewN | apply Kd.S_drew)); exact Kd.S_mono HO294.out (fun _ hk => hk.2)⟩, ⟨by (with_reducible repeat (first | apply Kd.S_alloc | apply Kd.S_drewN | apply Kd.S_drew)); exact Kd.S_mono HO298.out (fun _ hk => hk.2)⟩, ⟨by repeat (first | (with_reducible first | exact HB.out | apply below_alloc | apply pw_below_drewN | apply below_drew1) | exact HB.out)⟩⟩
                · rw [if_neg c20] at H
                  have c20b0 : (t292 == 0) = false := beq_eq_false_iff_ne.mpr c20
                  have c20b1 : (t292 != 0) = true := bne_iff_ne.mpr c20
                  by_cases c23 : t292 = t296
                  · rw [if_pos c23] at H
                    have c23b0 : (t292 == t296) = true := beq_iff_eq.mpr c23
                    have c23b1 : (t292 != t296) = false := bne_eq_false_iff_eq.mpr c23
                    clear c23
                    have H' := Aside0.mk H
                    clear H
                    obtain ⟨Ao24, co24, eo24⟩ := Kd.S_slice HO294.out
                    subst eo24
                    obtain ⟨Ao25, co25, eo25⟩ := Kd.S_slice HO298.out
                    subst eo25
                    go_wp2
                    go_meet
                    case rel => exact ⟨_, (((t291.length : Int) != (t295.length : Int))), (by first | rfl | (simp; done) | (simp [*]; done)), H', ⟨by first | omega | exact Nat.le_refl _⟩, ⟨by (with_reducible repeat (first | apply Kd.S_alloc | apply Kd.S_drewN | apply Kd.S_drew)); exact Kd.S_mono HO294.out (fun _ hk => hk.2)⟩, ⟨by (with_reducible repeat (first | apply Kd.S_alloc | apply Kd.S_drewN | apply Kd.S_drew)); exact Kd.S_mono HO298.out (fun _ hk => hk.2)⟩, ⟨by repeat (first | (with_reducible first | exact HB.out | apply below_alloc | apply pw_below_drewN | apply below_drew1) | exact HB.out)⟩⟩
                  · rw [if_neg c23] at H
                    have c23b0 : (t292 == t296) = false := beq_eq_false_iff_ne.mpr c23
                    have c23b1 : (t292 != t296) = true := bne_iff_ne.mpr c23
                    have H' := Aside0.mk H
                    clear H
                    obtain ⟨Ao26, co26, eo26⟩ := Kd.S_slice HO294.out
                    subst eo26
                    obtain ⟨Ao27, co27, eo27⟩ := Kd.S_slice HO298.out
                    subst eo27
                    go_wp2
                    go_meet
                    case rel => exact ⟨_, (true), (by first | rfl | (simp; done) | (simp [*]; done)), H', ⟨by first | omega | exact Nat.le_refl _⟩, ⟨by (with_reducible repeat (first | apply Kd.S_alloc | apply Kd.S_drewN | apply Kd.S_drew)); exact Kd.S_mono HO294.out (fun _ hk => hk.2)⟩, ⟨by (with_reducible repeat (first | apply Kd.S_alloc | apply Kd.S_drewN | apply Kd.S_drew)); exact Kd.S_mono HO298.out (fun _ hk => hk.2)⟩, ⟨by repeat (first | (with_reducible first | exact HB.out | apply below_alloc | apply pw_below_drewN | apply below_drew1) | exact HB.out)⟩⟩
            case rest =>
              clear HC13
              try clear c1
              try clear c2
              try clear p2
              try clear c4
              try clear c5
              try clear c5b0
              try clear c5b1
              try clear c6
              try clear p6
              try clear c7
              try clear c7b0
              try clear c7b1
              try clear c9
              try clear c9b0
              try clear c9b1
              try clear c10
              try clear c10b0
              try clear c10b1
              try clear c17
              try clear c17b0
              try clear c17b1
              try clear c20
              try clear c20b0
              try clear c20b1
              try clear c23
              try clear c23b0
              try clear c23b1
              obtain ⟨kq, x53_12, rfl, HA, HJ12, HO_5, HO_7, HB⟩ := hcut
              cases kq with
              | zero => exact absurd HA.out (by simp [crossroadlaw04_CutterGrows.j0])
              | succ kj12 =>
                have H := HA.out
                clear HA
                simp only [crossroadlaw04_CutterGrows.j0] at H
                by_cases c28 : x53_12 = true
                · subst c28
                  have H1 : (some false) = some r := by rw [if_pos rfl] at H; exact H
                  clear H
                  have H := H1
                  clear H1
                  obtain rfl := Option.some.inj H
                  go_wp2
                  go_ret
                  exact ⟨by first | rfl | (simp [errW_none, errW_some] <;> rfl) | (simp only [← hji8]; first | rfl | (simp [errW_none, errW_some] <;> rfl)) | (simp [*, errW_none, errW_some] <;> rfl), by repeat (first | (with_reducible first | exact HB.out | apply below_alloc | apply pw_below_drewN | apply below_drew1) | exact HB.out)⟩
                · replace c28 := Bool.eq_false_iff.mpr c28
                  subst c28
                  have H1 : (crossroadlaw04_CutterGrows.l0 kj12 t291 t295 (t291.length : Int) 0) = some r := by rw [if_neg (show ¬ (false = true) by decide)] at H; exact H
                  clear H
                  have H := H1
                  clear H1
                  have H' := Aside0.mk H
                  clear H
                  obtain ⟨Ao29, co29, eo29⟩ := Kd.S_slice HO_5.out
                  subst eo29
                  go_wp2
                  go_loopg [56] kj12 (fun kq v56 w' => ∃ (x56_2 : Int), v56 = .int .i64 x56_2 ∧ Aside0 (crossroadlaw04_CutterGrows.l0 kq t291 t295 (t291.length : Int) x56_2 = some r) ∧ Aside0 (kq ≤ kj12) ∧ Aside0 (Kd.S k30 30 w' w.heap.size (fun k_ => some k_ ≠ (v297 : Value).ownBlock) (.slice Ao29 t291.length co29) t291) ∧ Aside0 (Kd.S k30 30 w' w.heap.size (fun k_ => some k_ ≠ ((.slice Ao29 t291.length co29) : Value).ownBlock) v297 t295) ∧ Aside0 (Below w.heap.size w w'))
                  case atStart => exact ⟨(0), (by first | rfl | (simp; done) | (simp [*]; done)), H', ⟨Nat.le_refl _⟩, ⟨by (with_reducible repeat (first | apply Kd.S_alloc | apply Kd.S_drewN | apply Kd.S_drew)); exact HO_5.out⟩, ⟨by (with_reducible repeat (first | apply Kd.S_alloc | apply Kd.S_drewN | apply Kd.S_drew)); exact HO_7.out⟩, ⟨by repeat (first | (with_reducible first | exact HB.out | apply below_alloc | apply pw_below_drewN | apply below_drew1) | exact HB.out)⟩⟩
                  case round =>
                    clear H'
                    try clear c1
                    try clear c2
                    try clear p2
                    try clear c4
                    try clear c5
                    try clear c5b0
                    try clear c5b1
                    try clear c6
                    try clear p6
                    try clear c7
                    try clear c7b0
                    try clear c7b1
                    try clear c9
                    try clear c9b0
                    try clear c9b1
                    try clear c10
                    try clear c10b0
                    try clear c10b1
                    try clear c17
                    try clear c17b0
                    try clear c17b1
                    try clear c20
                    try clear c20b0
                    try clear c20b1
                    try clear c23
                    try clear c23b0
                    try clear c23b1
                    try clear c28
                    try clear p2
                    try clear p6
                    obtain ⟨x56_2, rfl, HA, HK2, HO_5, HO_7, HB⟩ := hrel
                    cases gk with
                    | zero => exact absurd HA.out (by simp [crossroadlaw04_CutterGrows.l0])
                    | succ k2 =>
                      have H := HA.out
                      clear HA
                      simp only [crossroadlaw04_CutterGrows.l0] at H
                      by_cases c30 : x56_2 < (t291.length : Int)
                      · rw [if_pos c30] at H
                        have c30b0 : decide (x56_2 < (t291.length : Int)) = true := decide_eq_true c30
                        clear c30
                        by_cases c31 : 0 ≤ x56_2
                        · rw [if_pos c31] at H
                          have c31b0 : decide (0 ≤ x56_2) = true := decide_eq_true c31
                          clear c31
                          by_cases c32 : x56_2 < (t291.length : Int)
                          · rw [if_pos c32] at H
                            have c32b0 : decide (x56_2 < (t291.length : Int)) = true := decide_eq_true c32
                            clear c32
                            by_cases c33 : x56_2 < (t295.length : Int)
                            · rw [if_pos c33] at H
                              have c33b0 : decide (x56_2 < (t295.length : Int)) = true := decide_eq_true c33
                              clear c33
                              replace H := Option.bind_eq_some_iff.mp H
                              obtain ⟨t301, A340, H⟩ := H
                              replace H : (if t301 = true then (crossroadlaw04_CutterGrows.l0 k2 t291 t295 (t291.length : Int) (wrap64 (x56_2 + 1))) else (some false)) = some r := H
                              have A34 := Aside0.mk A340
                              clear A340
                              by_cases c35 : t301 = true
                              · subst c35
                                have H1 : (crossroadlaw04_CutterGrows.l0 k2 t291 t295 (t291.length : Int) (wrap64 (x56_2 + 1))) = some r := by rw [if_pos rfl] at H; exact H
                                clear H
                                have H := H1
                                clear H1
                                have H' := Aside0.mk H
                                clear H
                                try go_wp2
                                have n0_ := Aside0.mk (Kd.S_drew HO_5.out)
                                have n1_ := Aside0.mk (Kd.S_drew HO_7.out)
                                have n2_ := Aside0.mk (below_drew1 HB.out)
                                clear HO_5
                                clear HO_7
                                clear HB
                                have HO_5 := n0_
                                have HO_7 := n1_
                                have HB := n2_
                                clear n0_ n1_ n2_
                                have p299 : 0 ≤ (x56_2 : Int) := of_decide_eq_true (by first | (with_reducible assumption) | assumption)
                                have q299 : x56_2 < (t291.length : Int) := of_decide_eq_true (by first | (with_reducible assumption) | assumption)
                                obtain ⟨ad299, A299_2, c299_2, e299, hx299_0, hx299_1, hx299_2, hx299_3, hx299_4, hl299_2, hi299_2⟩ := at_T30 (Kd.S_reads' HO_5.out).2.2 x56_2 p299 q299
                                cases e299
                                obtain ⟨ce299, hce299, hMe299, hcc299⟩ := Kd.S_get HO_5.out z30 x56_2 p299 (by first | exact q299 | exact of_decide_eq_true (by first | (with_reducible assumption) | assumption) | (have e_ := (Kd.S_reads' HO_5.out).1; omega))
                                obtain ⟨ve299_2, rfl, ge299_2⟩ := k30_openM hMe299
                                have hv299_2 := hcc299 2 _ rfl
                                rw [add_field _ _ 2 (by omega)] at hv299_2
                                replace hv299_2 := Option.some.inj (hv299_2.symm.trans hx299_2)
                                rw [hv299_2] at ge299_2
                                have HL299_2 := Aside0.mk (show Kd.R k44 44 _ _ _ _ ((rd_T30 t291 x56_2).f2) from ge299_2)
                                clear hv299_2 ge299_2
                                clear hcc299 hce299
                                have HR299_2 := Aside0.mk hi299_2
                                have HC299_2 := Aside0.mk hl299_2
                                clear hi299_2 hl299_2
                                replace p299 := eq_true p299
                                replace q299 := eq_true q299
                                obtain ⟨Ao37, co37, eo37⟩ := Kd.S_slice HO_7.out
                                (first | subst eo37 | (injection eo37 with f1_ f2_ f3_; have f4_ := f1_.symm; have f5_ := f3_.symm; clear f1_ f2_ f3_; subst f4_; subst f5_))
                                have p300 : 0 ≤ (x56_2 : Int) := of_decide_eq_true (by first | (with_reducible assumption) | assumption)
                                have q300 : x56_2 < (t295.length : Int) := of_decide_eq_true (by first | (with_reducible assumption) | assumption)
                                obtain ⟨ad300, A300_2, c300_2, e300, hx300_0, hx300_1, hx300_2, hx300_3, hx300_4, hl300_2, hi300_2⟩ := at_T30 (Kd.S_reads' HO_7.out).2.2 x56_2 p300 q300
                                cases e300
                                obtain ⟨ce300, hce300, hMe300, hcc300⟩ := Kd.S_get HO_7.out z30 x56_2 p300 (by first | exact q300 | exact of_decide_eq_true (by first | (with_reducible assumption) | assumption) | (have e_ := (Kd.S_reads' HO_7.out).1; omega))
                                obtain ⟨ve300_2, rfl, ge300_2⟩ := k30_openM hMe300
                                have hv300_2 := hcc300 2 _ rfl
                                rw [add_field _ _ 2 (by omega)] at hv300_2
                                replace hv300_2 := Option.some.inj (hv300_2.symm.trans hx300_2)
                                rw [hv300_2] at ge300_2
                                have HL300_2 := Aside0.mk (show Kd.R k44 44 _ _ _ _ ((rd_T30 t295 x56_2).f2) from ge300_2)
                                clear hv300_2 ge300_2
                                clear hcc300 hce300
                                have HR300_2 := Aside0.mk hi300_2
                                have HC300_2 := Aside0.mk hl300_2
                                clear hi300_2 hl300_2
                                replace p300 := eq_true p300
                                replace q300 := eq_true q300
                                refine start_ (n := 10) (S := fun w' => w'.cell? (ad299.add ((x56_2).toNat * 5)) = some (.string ((rd_T30 t291 x56_2).f0)) ∧ w'.cell? ⟨(ad299.add ((x56_2).toNat * 5)).block, (ad299.add ((x56_2).toNat * 5)).off + 1, none⟩ = some (.string ((rd_T30 t291 x56_2).f1)) ∧ w'.cell? ⟨(ad299.add ((x56_2).toNat * 5)).block, (ad299.add ((x56_2).toNat * 5)).off + 2, none⟩ = some (.slice A299_2 ((rd_T30 t291 x56_2).f2).length c299_2) ∧ w'.cell? ⟨(ad299.add ((x56_2).toNat * 5)).block, (ad299.add ((x56_2).toNat * 5)).off + 3, none⟩ = some (.string ((rd_T30 t291 x56_2).f3)) ∧ w'.cell? ⟨(ad299.add ((x56_2).toNat * 5)).block, (ad299.add ((x56_2).toNat * 5)).off + 4, none⟩ = some (.bool ((rd_T30 t291 x56_2).f4)) ∧ w'.cell? (ad300.add ((x56_2).toNat * 5)) = some (.string ((rd_T30 t295 x56_2).f0)) ∧ w'.cell? ⟨(ad300.add ((x56_2).toNat * 5)).block, (ad300.add ((x56_2).toNat * 5)).off + 1, none⟩ = some (.string ((rd_T30 t295 x56_2).f1)) ∧ w'.cell? ⟨(ad300.add ((x56_2).toNat * 5)).block, (ad300.add ((x56_2).toNat * 5)).off + 2, none⟩ = some (.slice A300_2 ((rd_T30 t295 x56_2).f2).length c300_2) ∧ w'.cell? ⟨(ad300.add ((x56_2).toNat * 5)).block, (ad300.add ((x56_2).toNat * 5)).off + 3, none⟩ = some (.string ((rd_T30 t295 x56_2).f3)) ∧ w'.cell? ⟨(ad300.add ((x56_2).toNat * 5)).block, (ad300.add ((x56_2).toNat * 5)).off + 4, none⟩ = some (.bool ((rd_T30 t295 x56_2).f4))) (ds := []) #[false, false, false, false, false, false, false, false, false, false] (by kernel_rfl) rfl rfl ⟨hx299_0, hx299_1, hx299_2, hx299_3, hx299_4, hx300_0, hx300_1, hx300_2, hx300_3, hx300_4⟩ (fun hHeld => ?_); refine with_tabW crossroadlaw04_CutterGrows.tab13 crossroadlaw04_CutterGrows.bits13 (fun HT_ HW_ => ?_)
                                generalize wr.drew = w36 at HO_5 HO_7 HB HL299_2 HL300_2 HR299_2 HR300_2 hx299_0 hx299_1 hx299_2 hx299_3 hx299_4 hx300_0 hx300_1 hx300_2 hx300_3 hx300_4 hHeld ⊢
                                refine pure_ (i := 0) (N := some 59) (v := ?_) (a' := ?_) #[true, false, false, false, false, false, false, false, false, false] rfl rfl (any_of HT_.out (by kernel_rfl)) (fun _ _ _ h => h) (Or.inl ⟨by rfl, ?_⟩) ?_ ?_
                                rotate_left
                                · intro w'
                                  go_simp
                                  with_reducible rfl
                                rotate_left
                                · simp only [Act.put, List.setIfInBounds_toArray, List.set_cons_zero, List.set_cons_succ, i64_w, i32_w]
                                  rfl
                                refine pure_ (i := 1) (N := some 60) (v := ?_) (a' := ?_) #[true, true, false, false, false, false, false, false, false, false] rfl rfl (any_of HT_.out (by kernel_rfl)) (fun _ _ _ h => h) (Or.inl ⟨by rfl, ?_⟩) ?_ ?_
                                rotate_left
                                · intro w'
                                  go_simp
                                  with_reducible rfl
                                rotate_left
                                · simp only [Act.put, List.setIfInBounds_toArray, List.set_cons_zero, List.set_cons_succ, i64_w, i32_w]
                                  rfl
                                refine pure_ (i := 2) (N := some 61) (v := ?_) (a' := ?_) #[true, true, true, false, false, false, false, false, false, false] rfl rfl (any_of HT_.out (by kernel_rfl)) (fun _ _ _ h => h) (Or.inl ⟨by rfl, ?_⟩) ?_ ?_
                                rotate_left
                                · intro w'
                                  go_simp
                                  with_reducible rfl
                                rotate_left
                                · simp only [Act.put, List.setIfInBounds_toArray, List.set_cons_zero, List.set_cons_succ, i64_w, i32_w]
                                  rfl
                                refine pure_ (i := 4) (N := some 63) (v := ?_) (a' := ?_) #[true, true, true, false, true, false, false, false, false, false] rfl rfl (any_of HT_.out (by kernel_rfl)) (fun _ _ _ h => h) (Or.inl ⟨by rfl, ?_⟩) ?_ ?_
                                rotate_left
                                · intro w'
                                  go_simp
                                  with_reducible rfl
                                rotate_left
                                · simp only [Act.put, List.setIfInBounds_toArray, List.set_cons_zero, List.set_cons_succ, i64_w, i32_w]
                                  rfl
                                refine pure_ (i := 5) (N := some 64) (v := ?_) (a' := ?_) #[true, true, true, false, true, true, false, false, false, false] rfl rfl (any_of HT_.out (by kernel_rfl)) (fun _ _ _ h => h) (Or.inl ⟨by rfl, ?_⟩) ?_ ?_
                                rotate_left
                                · intro w'
                                  go_simp
                                  with_reducible rfl
                                rotate_left
                                · simp only [Act.put, List.setIfInBounds_toArray, List.set_cons_zero, List.set_cons_succ, i64_w, i32_w]
                                  rfl
                                refine pure_ (i := 6) (N := some 65) (v := ?_) (a' := ?_) #[true, true, true, false, true, true, true, false, false, false] rfl rfl (any_of HT_.out (by kernel_rfl)) (fun _ _ _ h => h) (Or.inl ⟨by rfl, ?_⟩) ?_ ?_
                                rotate_left
                                · intro w'
                                  go_simp
                                  with_reducible rfl
                                rotate_left
                                · simp only [Act.put, List.setIfInBounds_toArray, List.set_cons_zero, List.set_cons_succ, i64_w, i32_w]
                                  rfl
                                refine take_ (i := 3) (N := some 62) (v := ?_) (a' := ?_) #[true, true, true, true, true, true, true, false, false, false] rfl rfl (take_ofW HT_.out HW_.out (by kernel_rfl)) (fun _ _ _ h => h) (Or.inl ⟨by rfl, ?_⟩) hHeld ?_ ?_
                                rotate_left
                                · rintro w' ⟨s0, s1, s2, s3, s4, s5, s6, s7, s8, s9⟩
                                  go_simp
                                  with_reducible rfl
                                rotate_left
                                · simp only [Act.put, List.setIfInBounds_toArray, List.set_cons_zero, List.set_cons_succ, i64_w, i32_w]
                                  rfl
                                refine take_ (i := 7) (N := some 66) (v := ?_) (a' := ?_) #[true, true, true, true, true, true, true, true, false, false] rfl rfl (take_ofW HT_.out HW_.out (by kernel_rfl)) (fun _ _ _ h => h) (Or.inl ⟨by rfl, ?_⟩) hHeld ?_ ?_
                                rotate_left
                                · rintro w' ⟨s0, s1, s2, s3, s4, s5, s6, s7, s8, s9⟩
                                  go_simp
                                  with_reducible rfl
                                rotate_left
                                · simp only [Act.put, List.setIfInBounds_toArray, List.set_cons_zero, List.set_cons_succ, i64_w, i32_w]
                                  rfl
                                refine one_ (i := 8) (N := some 67) #[true, true, true, true, true, true, true, true, true, false] rfl rfl (one_of HT_.out (by kernel_rfl)) (by decide) (fun K hK => ?_)
                                refine goes_ Try.func7 (by kernel_rfl) rfl #[.agg #[.string ((rd_T30 t291 x56_2).f0), .string ((rd_T30 t291 x56_2).f1), .slice A299_2 ((rd_T30 t291 x56_2).f2).length c299_2, .string ((rd_T30 t291 x56_2).f3), .bool ((rd_T30 t291 x56_2).f4)], .agg #[.string ((rd_T30 t295 x56_2).f0), .string ((rd_T30 t295 x56_2).f1), .slice A300_2 ((rd_T30 t295 x56_2).f2).length c300_2, .string ((rd_T30 t295 x56_2).f3), .bool ((rd_T30 t295 x56_2).f4)]] (by rfl) rfl rfl (by (try simp only [List.map_toArray, List.map_cons, List.map_nil]); first | done | rfl | (simp only [List.length_drop, List.length_take]; rfl)) ?_
                                with_reducible refine (crossroadlaw04_Same.calls k2 ((rd_T30 t291 x56_2).f0) ((rd_T30 t291 x56_2).f1) _ _ ((rd_T30 t291 x56_2).f2) ((rd_T30 t291 x56_2).f3) ((rd_T30 t291 x56_2).f4) ((rd_T30 t295 x56_2).f0) ((rd_T30 t295 x56_2).f1) _ _ ((rd_T30 t295 x56_2).f2) ((rd_T30 t295 x56_2).f3) ((rd_T30 t295 x56_2).f4) true _ ?side1 ?side2 ?side3 ?side4 A34.out).mono ?_
                                (case side1 => repeat (first | exact (by repeat (first | (with_reducible exact HR299_2.out) | (with_reducible refine Kd.C_alloc ?_ _) | (with_reducible refine Kd.C_drewN ?_ _) | (with_reducible refine Kd.C_drew ?_) | exact HR299_2.out)) | (with_reducible refine Kd.C_alloc ?_ _) | (with_reducible refine Kd.C_drewN ?_ _) | (with_reducible refine Kd.C_drew ?_)))
                                (case side2 => exact HC299_2.out)
                                (case side3 => repeat (first | exact (by repeat (first | (with_reducible exact HR300_2.out) | (with_reducible refine Kd.C_alloc ?_ _) | (with_reducible refine Kd.C_drewN ?_ _) | (with_reducible refine Kd.C_drew ?_) | exact HR300_2.out)) | (with_reducible refine Kd.C_alloc ?_ _) | (with_reducible refine Kd.C_drewN ?_ _) | (with_reducible refine Kd.C_drew ?_)))
                                (case side4 => exact HC300_2.out)
                                rintro e w38 ⟨rfl, hb⟩
                                have HS0_ := (hb.cell (World.block_lt_of_cell? _ _ (hHeld.1))).trans (hHeld.1)
                                have HS1_ := (hb.cell (World.block_lt_of_cell? _ _ (hHeld.2.1))).trans (hHeld.2.1)
                                have HS2_ := (hb.cell (World.block_lt_of_cell? _ _ (hHeld.2.2.1))).trans (hHeld.2.2.1)
                                have HS3_ := (hb.cell (World.block_lt_of_cell? _ _ (hHeld.2.2.2.1))).trans (hHeld.2.2.2.1)
                                have HS4_ := (hb.cell (World.block_lt_of_cell? _ _ (hHeld.2.2.2.2.1))).trans (hHeld.2.2.2.2.1)
                                have HS5_ := (hb.cell (World.block_lt_of_cell? _ _ (hHeld.2.2.2.2.2.1))).trans (hHeld.2.2.2.2.2.1)
                                have HS6_ := (hb.cell (World.block_lt_of_cell? _ _ (hHeld.2.2.2.2.2.2.1))).trans (hHeld.2.2.2.2.2.2.1)
                                have HS7_ := (hb.cell (World.block_lt_of_cell? _ _ (hHeld.2.2.2.2.2.2.2.1))).trans (hHeld.2.2.2.2.2.2.2.1)
                                have HS8_ := (hb.cell (World.block_lt_of_cell? _ _ (hHeld.2.2.2.2.2.2.2.2.1))).trans (hHeld.2.2.2.2.2.2.2.2.1)
                                have HS9_ := (hb.cell (World.block_lt_of_cell? _ _ (hHeld.2.2.2.2.2.2.2.2.2))).trans (hHeld.2.2.2.2.2.2.2.2.2)
                                refine ⟨_, rfl, ?_⟩
                                have n0_ := Aside0.mk (Kd.S_below (by (with_reducible repeat (first | apply Kd.S_alloc | apply Kd.S_drewN | apply Kd.S_drew)); exact HO_5.out) hb)
                                have n1_ := Aside0.mk (Kd.S_below (by (with_reducible repeat (first | apply Kd.S_alloc | apply Kd.S_drewN | apply Kd.S_drew)); exact HO_7.out) hb)
                                have n2_ := Aside0.mk (Kd.R_below (by (with_reducible repeat (first | apply Kd.R_alloc | apply Kd.R_drewN | apply Kd.R_drew)); exact HL299_2.out) hb)
                                have n3_ := Aside0.mk (Kd.R_below (by (with_reducible repeat (first | apply Kd.R_alloc | apply Kd.R_drewN | apply Kd.R_drew)); exact HL300_2.out) hb)
                                have n4_ := Aside0.mk (Kd.C_below (by repeat (first | (with_reducible exact HR299_2.out) | (with_reducible refine Kd.C_alloc ?_ _) | (with_reducible refine Kd.C_drewN ?_ _) | (with_reducible refine Kd.C_drew ?_) | exact HR299_2.out)) hb)
                                have n5_ := Aside0.mk (Kd.C_below (by repeat (first | (with_reducible exact HR300_2.out) | (with_reducible refine Kd.C_alloc ?_ _) | (with_reducible refine Kd.C_drewN ?_ _) | (with_reducible refine Kd.C_drew ?_) | exact HR300_2.out)) hb)
                                have n6_ := Aside0.mk (below_step (by repeat (first | (with_reducible first | exact HB.out | apply below_alloc | apply pw_below_drewN | apply below_drew1) | exact HB.out)) hb)
                                clear HO_5
                                clear HO_7
                                clear HL299_2
                                clear HL300_2
                                clear HR299_2
                                clear HR300_2
                                clear HB
                                have HO_5 := n0_
                                have HO_7 := n1_
                                have HL299_2 := n2_
                                have HL300_2 := n3_
                                have HR299_2 := n4_
                                have HR300_2 := n5_
                                have HB := n6_
                                clear n0_ n1_ n2_ n3_ n4_ n5_ n6_
                                (try clear hb)
                                (try clear hb2)
                                (try clear hk)
                                (try clear hi)
                                refine hK.out _ _ ⟨HS0_, HS1_, HS2_, HS3_, HS4_, HS5_, HS6_, HS7_, HS8_, HS9_⟩ (fun hHeld => ?_)
                                clear hK K
                                refine norm_ (a' := ?_) ?_ ?_
                                rotate_left
                                · show Act.put _ (some 67) _ = _
                                  simp only [Act.put, List.setIfInBounds_toArray, List.set_cons_zero, List.set_cons_succ, i64_w, i32_w]
                                  rfl
                                refine pure_ (i := 9) (N := some 68) (v := ?_) (a' := ?_) #[true, true, true, true, true, true, true, true, true, true] rfl rfl (any_of HT_.out (by kernel_rfl)) (fun _ _ _ h => h) (Or.inl ⟨by rfl, ?_⟩) ?_ ?_
                                rotate_left
                                · intro w'
                                  go_simp
                                  with_reducible rfl
                                rotate_left
                                · simp only [Act.put, List.setIfInBounds_toArray, List.set_cons_zero, List.set_cons_succ, i64_w, i32_w]
                                  rfl
                                refine done_ (done_of HT_.out (by kernel_rfl)) ?_
                                try go_wp2
                                go_roundg k2
                                case measure => have := HJ12.out; have := HK2.out; omega
                                case rel => exact ⟨(wrap64 (x56_2 + 1)), (by first | rfl | (simp; done) | (simp [*]; done)), H', ⟨by have := HJ12.out; have := HK2.out; omega⟩, ⟨by (with_reducible repeat (first | apply Kd.S_alloc | apply Kd.S_drewN | apply Kd.S_drew)); exact HO_5.out⟩, ⟨by (with_reducible repeat (first | apply Kd.S_alloc | apply Kd.S_drewN | apply Kd.S_drew)); exact HO_7.out⟩, ⟨by repeat (first | (with_reducible first | exact HB.out | apply below_alloc | apply pw_below_drewN | apply below_drew1) | exact HB.out)⟩⟩
                              · replace c35 := Bool.eq_false_iff.mpr c35
                                subst c35
                                have H1 : (some false) = some r := by rw [if_neg (show ¬ (false = true) by decide)] at H; exact H
                                clear H
                                have H := H1
                                clear H1
                                obtain rfl := Option.some.inj H
                                try go_wp2
                                have n0_ := Aside0.mk (Kd.S_drew HO_5.out)
                                have n1_ := Aside0.mk (Kd.S_drew HO_7.out)
                                have n2_ := Aside0.mk (below_drew1 HB.out)
                                clear HO_5
                                clear HO_7
                                clear HB
                                have HO_5 := n0_
                                have HO_7 := n1_
                                have HB := n2_
                                clear n0_ n1_ n2_
                                have p299 : 0 ≤ (x56_2 : Int) := of_decide_eq_true (by first | (with_reducible assumption) | assumption)
                                have q299 : x56_2 < (t291.length : Int) := of_decide_eq_true (by first | (with_reducible assumption) | assumption)
                                obtain ⟨ad299, A299_2, c299_2, e299, hx299_0, hx299_1, hx299_2, hx299_3, hx299_4, hl299_2, hi299_2⟩ := at_T30 (Kd.S_reads' HO_5.out).2.2 x56_2 p299 q299
                                cases e299
                                obtain ⟨ce299, hce299, hMe299, hcc299⟩ := Kd.S_get HO_5.out z30 x56_2 p299 (by first | exact q299 | exact of_decide_eq_true (by first | (with_reducible assumption) | assumption) | (have e_ := (Kd.S_reads' HO_5.out).1; omega))
                                obtain ⟨ve299_2, rfl, ge299_2⟩ := k30_openM hMe299
                                have hv299_2 := hcc299 2 _ rfl
                                rw [add_field _ _ 2 (by omega)] at hv299_2
                                replace hv299_2 := Option.some.inj (hv299_2.symm.trans hx299_2)
                                rw [hv299_2] at ge299_2
                                have HL299_2 := Aside0.mk (show Kd.R k44 44 _ _ _ _ ((rd_T30 t291 x56_2).f2) from ge299_2)
                                clear hv299_2 ge299_2
                                clear hcc299 hce299
                                have HR299_2 := Aside0.mk hi299_2
                                have HC299_2 := Aside0.mk hl299_2
                                clear hi299_2 hl299_2
                                replace p299 := eq_true p299
                                replace q299 := eq_true q299
                                obtain ⟨Ao40, co40, eo40⟩ := Kd.S_slice HO_7.out
                                (first | subst eo40 | (injection eo40 with f1_ f2_ f3_; have f4_ := f1_.symm; have f5_ := f3_.symm; clear f1_ f2_ f3_; subst f4_; subst f5_))
                                have p300 : 0 ≤ (x56_2 : Int) := of_decide_eq_true (by first | (with_reducible assumption) | assumption)
                                have q300 : x56_2 < (t295.length : Int) := of_decide_eq_true (by first | (with_reducible assumption) | assumption)
                                obtain ⟨ad300, A300_2, c300_2, e300, hx300_0, hx300_1, hx300_2, hx300_3, hx300_4, hl300_2, hi300_2⟩ := at_T30 (Kd.S_reads' HO_7.out).2.2 x56_2 p300 q300
                                cases e300
                                obtain ⟨ce300, hce300, hMe300, hcc300⟩ := Kd.S_get HO_7.out z30 x56_2 p300 (by first | exact q300 | exact of_decide_eq_true (by first | (with_reducible assumption) | assumption) | (have e_ := (Kd.S_reads' HO_7.out).1; omega))
                                obtain ⟨ve300_2, rfl, ge300_2⟩ := k30_openM hMe300
                                have hv300_2 := hcc300 2 _ rfl
                                rw [add_field _ _ 2 (by omega)] at hv300_2
                                replace hv300_2 := Option.some.inj (hv300_2.symm.trans hx300_2)
                                rw [hv300_2] at ge300_2
                                have HL300_2 := Aside0.mk (show Kd.R k44 44 _ _ _ _ ((rd_T30 t295 x56_2).f2) from ge300_2)
                                clear hv300_2 ge300_2
                                clear hcc300 hce300
                                have HR300_2 := Aside0.mk hi300_2
                                have HC300_2 := Aside0.mk hl300_2
                                clear hi300_2 hl300_2
                                replace p300 := eq_true p300
                                replace q300 := eq_true q300
                                refine start_ (n := 10) (S := fun w' => w'.cell? (ad299.add ((x56_2).toNat * 5)) = some (.string ((rd_T30 t291 x56_2).f0)) ∧ w'.cell? ⟨(ad299.add ((x56_2).toNat * 5)).block, (ad299.add ((x56_2).toNat * 5)).off + 1, none⟩ = some (.string ((rd_T30 t291 x56_2).f1)) ∧ w'.cell? ⟨(ad299.add ((x56_2).toNat * 5)).block, (ad299.add ((x56_2).toNat * 5)).off + 2, none⟩ = some (.slice A299_2 ((rd_T30 t291 x56_2).f2).length c299_2) ∧ w'.cell? ⟨(ad299.add ((x56_2).toNat * 5)).block, (ad299.add ((x56_2).toNat * 5)).off + 3, none⟩ = some (.string ((rd_T30 t291 x56_2).f3)) ∧ w'.cell? ⟨(ad299.add ((x56_2).toNat * 5)).block, (ad299.add ((x56_2).toNat * 5)).off + 4, none⟩ = some (.bool ((rd_T30 t291 x56_2).f4)) ∧ w'.cell? (ad300.add ((x56_2).toNat * 5)) = some (.string ((rd_T30 t295 x56_2).f0)) ∧ w'.cell? ⟨(ad300.add ((x56_2).toNat * 5)).block, (ad300.add ((x56_2).toNat * 5)).off + 1, none⟩ = some (.string ((rd_T30 t295 x56_2).f1)) ∧ w'.cell? ⟨(ad300.add ((x56_2).toNat * 5)).block, (ad300.add ((x56_2).toNat * 5)).off + 2, none⟩ = some (.slice A300_2 ((rd_T30 t295 x56_2).f2).length c300_2) ∧ w'.cell? ⟨(ad300.add ((x56_2).toNat * 5)).block, (ad300.add ((x56_2).toNat * 5)).off + 3, none⟩ = some (.string ((rd_T30 t295 x56_2).f3)) ∧ w'.cell? ⟨(ad300.add ((x56_2).toNat * 5)).block, (ad300.add ((x56_2).toNat * 5)).off + 4, none⟩ = some (.bool ((rd_T30 t295 x56_2).f4))) (ds := []) #[false, false, false, false, false, false, false, false, false, false] (by kernel_rfl) rfl rfl ⟨hx299_0, hx299_1, hx299_2, hx299_3, hx299_4, hx300_0, hx300_1, hx300_2, hx300_3, hx300_4⟩ (fun hHeld => ?_); refine with_tabW crossroadlaw04_CutterGrows.tab13 crossroadlaw04_CutterGrows.bits13 (fun HT_ HW_ => ?_)
                                generalize wr.drew = w39 at HO_5 HO_7 HB HL299_2 HL300_2 HR299_2 HR300_2 hx299_0 hx299_1 hx299_2 hx299_3 hx299_4 hx300_0 hx300_1 hx300_2 hx300_3 hx300_4 hHeld ⊢
                                refine pure_ (i := 0) (N := some 59) (v := ?_) (a' := ?_) #[true, false, false, false, false, false, false, false, false, false] rfl rfl (any_of HT_.out (by kernel_rfl)) (fun _ _ _ h => h) (Or.inl ⟨by rfl, ?_⟩) ?_ ?_
                                rotate_left
                                · intro w'
                                  go_simp
                                  with_reducible rfl
                                rotate_left
                                · simp only [Act.put, List.setIfInBounds_toArray, List.set_cons_zero, List.set_cons_succ, i64_w, i32_w]
                                  rfl
                                refine pure_ (i := 1) (N := some 60) (v := ?_) (a' := ?_) #[true, true, false, false, false, false, false, false, false, false] rfl rfl (any_of HT_.out (by kernel_rfl)) (fun _ _ _ h => h) (Or.inl ⟨by rfl, ?_⟩) ?_ ?_
                                rotate_left
                                · intro w'
                                  go_simp
                                  with_reducible rfl
                                rotate_left
                                · simp only [Act.put, List.setIfInBounds_toArray, List.set_cons_zero, List.set_cons_succ, i64_w, i32_w]
                                  rfl
                                refine pure_ (i := 2) (N := some 61) (v := ?_) (a' := ?_) #[true, true, true, false, false, false, false, false, false, false] rfl rfl (any_of HT_.out (by kernel_rfl)) (fun _ _ _ h => h) (Or.inl ⟨by rfl, ?_⟩) ?_ ?_
                                rotate_left
                                · intro w'
                                  go_simp
                                  with_reducible rfl
                                rotate_left
                                · simp only [Act.put, List.setIfInBounds_toArray, List.set_cons_zero, List.set_cons_succ, i64_w, i32_w]
                                  rfl
                                refine pure_ (i := 4) (N := some 63) (v := ?_) (a' := ?_) #[true, true, true, false, true, false, false, false, false, false] rfl rfl (any_of HT_.out (by kernel_rfl)) (fun _ _ _ h => h) (Or.inl ⟨by rfl, ?_⟩) ?_ ?_
                                rotate_left
                                · intro w'
                                  go_simp
                                  with_reducible rfl
                                rotate_left
                                · simp only [Act.put, List.setIfInBounds_toArray, List.set_cons_zero, List.set_cons_succ, i64_w, i32_w]
                                  rfl
                                refine pure_ (i := 5) (N := some 64) (v := ?_) (a' := ?_) #[true, true, true, false, true, true, false, false, false, false] rfl rfl (any_of HT_.out (by kernel_rfl)) (fun _ _ _ h => h) (Or.inl ⟨by rfl, ?_⟩) ?_ ?_
                                rotate_left
                                · intro w'
                                  go_simp
                                  with_reducible rfl
                                rotate_left
                                · simp only [Act.put, List.setIfInBounds_toArray, List.set_cons_zero, List.set_cons_succ, i64_w, i32_w]
                                  rfl
                                refine pure_ (i := 6) (N := some 65) (v := ?_) (a' := ?_) #[true, true, true, false, true, true, true, false, false, false] rfl rfl (any_of HT_.out (by kernel_rfl)) (fun _ _ _ h => h) (Or.inl ⟨by rfl, ?_⟩) ?_ ?_
                                rotate_left
                                · intro w'
                                  go_simp
                                  with_reducible rfl
                                rotate_left
                                · simp only [Act.put, List.setIfInBounds_toArray, List.set_cons_zero, List.set_cons_succ, i64_w, i32_w]
                                  rfl
                                refine take_ (i := 3) (N := some 62) (v := ?_) (a' := ?_) #[true, true, true, true, true, true, true, false, false, false] rfl rfl (take_ofW HT_.out HW_.out (by kernel_rfl)) (fun _ _ _ h => h) (Or.inl ⟨by rfl, ?_⟩) hHeld ?_ ?_
                                rotate_left
                                · rintro w' ⟨s0, s1, s2, s3, s4, s5, s6, s7, s8, s9⟩
                                  go_simp
                                  with_reducible rfl
                                rotate_left
                                · simp only [Act.put, List.setIfInBounds_toArray, List.set_cons_zero, List.set_cons_succ, i64_w, i32_w]
                                  rfl
                                refine take_ (i := 7) (N := some 66) (v := ?_) (a' := ?_) #[true, true, true, true, true, true, true, true, false, false] rfl rfl (take_ofW HT_.out HW_.out (by kernel_rfl)) (fun _ _ _ h => h) (Or.inl ⟨by rfl, ?_⟩) hHeld ?_ ?_
                                rotate_left
                                · rintro w' ⟨s0, s1, s2, s3, s4, s5, s6, s7, s8, s9⟩
                                  go_simp
                                  with_reducible rfl
                                rotate_left
                                · simp only [Act.put, List.setIfInBounds_toArray, List.set_cons_zero, List.set_cons_succ, i64_w, i32_w]
                                  rfl
                                refine one_ (i := 8) (N := some 67) #[true, true, true, true, true, true, true, true, true, false] rfl rfl (one_of HT_.out (by kernel_rfl)) (by decide) (fun K hK => ?_)
                                refine goes_ Try.func7 (by kernel_rfl) rfl #[.agg #[.string ((rd_T30 t291 x56_2).f0), .string ((rd_T30 t291 x56_2).f1), .slice A299_2 ((rd_T30 t291 x56_2).f2).length c299_2, .string ((rd_T30 t291 x56_2).f3), .bool ((rd_T30 t291 x56_2).f4)], .agg #[.string ((rd_T30 t295 x56_2).f0), .string ((rd_T30 t295 x56_2).f1), .slice A300_2 ((rd_T30 t295 x56_2).f2).length c300_2, .string ((rd_T30 t295 x56_2).f3), .bool ((rd_T30 t295 x56_2).f4)]] (by rfl) rfl rfl (by (try simp only [List.map_toArray, List.map_cons, List.map_nil]); first | done | rfl | (simp only [List.length_drop, List.length_take]; rfl)) ?_
                                with_reducible refine (crossroadlaw04_Same.calls k2 ((rd_T30 t291 x56_2).f0) ((rd_T30 t291 x56_2).f1) _ _ ((rd_T30 t291 x56_2).f2) ((rd_T30 t291 x56_2).f3) ((rd_T30 t291 x56_2).f4) ((rd_T30 t295 x56_2).f0) ((rd_T30 t295 x56_2).f1) _ _ ((rd_T30 t295 x56_2).f2) ((rd_T30 t295 x56_2).f3) ((rd_T30 t295 x56_2).f4) false _ ?side1 ?side2 ?side3 ?side4 A34.out).mono ?_
                                (case side1 => repeat (first | exact (by repeat (first | (with_reducible exact HR299_2.out) | (with_reducible refine Kd.C_alloc ?_ _) | (with_reducible refine Kd.C_drewN ?_ _) | (with_reducible refine Kd.C_drew ?_) | exact HR299_2.out)) | (with_reducible refine Kd.C_alloc ?_ _) | (with_reducible refine Kd.C_drewN ?_ _) | (with_reducible refine Kd.C_drew ?_)))
                                (case side2 => exact HC299_2.out)
                                (case side3 => repeat (first | exact (by repeat (first | (with_reducible exact HR300_2.out) | (with_reducible refine Kd.C_alloc ?_ _) | (with_reducible refine Kd.C_drewN ?_ _) | (with_reducible refine Kd.C_drew ?_) | exact HR300_2.out)) | (with_reducible refine Kd.C_alloc ?_ _) | (with_reducible refine Kd.C_drewN ?_ _) | (with_reducible refine Kd.C_drew ?_)))
                                (case side4 => exact HC300_2.out)
                                rintro e w41 ⟨rfl, hb⟩
                                have HS0_ := (hb.cell (World.block_lt_of_cell? _ _ (hHeld.1))).trans (hHeld.1)
                                have HS1_ := (hb.cell (World.block_lt_of_cell? _ _ (hHeld.2.1))).trans (hHeld.2.1)
                                have HS2_ := (hb.cell (World.block_lt_of_cell? _ _ (hHeld.2.2.1))).trans (hHeld.2.2.1)
                                have HS3_ := (hb.cell (World.block_lt_of_cell? _ _ (hHeld.2.2.2.1))).trans (hHeld.2.2.2.1)
                                have HS4_ := (hb.cell (World.block_lt_of_cell? _ _ (hHeld.2.2.2.2.1))).trans (hHeld.2.2.2.2.1)
                                have HS5_ := (hb.cell (World.block_lt_of_cell? _ _ (hHeld.2.2.2.2.2.1))).trans (hHeld.2.2.2.2.2.1)
                                have HS6_ := (hb.cell (World.block_lt_of_cell? _ _ (hHeld.2.2.2.2.2.2.1))).trans (hHeld.2.2.2.2.2.2.1)
                                have HS7_ := (hb.cell (World.block_lt_of_cell? _ _ (hHeld.2.2.2.2.2.2.2.1))).trans (hHeld.2.2.2.2.2.2.2.1)
                                have HS8_ := (hb.cell (World.block_lt_of_cell? _ _ (hHeld.2.2.2.2.2.2.2.2.1))).trans (hHeld.2.2.2.2.2.2.2.2.1)
                                have HS9_ := (hb.cell (World.block_lt_of_cell? _ _ (hHeld.2.2.2.2.2.2.2.2.2))).trans (hHeld.2.2.2.2.2.2.2.2.2)
                                refine ⟨_, rfl, ?_⟩
                                have n0_ := Aside0.mk (Kd.S_below (by (with_reducible repeat (first | apply Kd.S_alloc | apply Kd.S_drewN | apply Kd.S_drew)); exact HO_5.out) hb)
                                have n1_ := Aside0.mk (Kd.S_below (by (with_reducible repeat (first | apply Kd.S_alloc | apply Kd.S_drewN | apply Kd.S_drew)); exact HO_7.out) hb)
                                have n2_ := Aside0.mk (Kd.R_below (by (with_reducible repeat (first | apply Kd.R_alloc | apply Kd.R_drewN | apply Kd.R_drew)); exact HL299_2.out) hb)
                                have n3_ := Aside0.mk (Kd.R_below (by (with_reducible repeat (first | apply Kd.R_alloc | apply Kd.R_drewN | apply Kd.R_drew)); exact HL300_2.out) hb)
                                have n4_ := Aside0.mk (Kd.C_below (by repeat (first | (with_reducible exact HR299_2.out) | (with_reducible refine Kd.C_alloc ?_ _) | (with_reducible refine Kd.C_drewN ?_ _) | (with_reducible refine Kd.C_drew ?_) | exact HR299_2.out)) hb)
                                have n5_ := Aside0.mk (Kd.C_below (by repeat (first | (with_reducible exact HR300_2.out) | (with_reducible refine Kd.C_alloc ?_ _) | (with_reducible refine Kd.C_drewN ?_ _) | (with_reducible refine Kd.C_drew ?_) | exact HR300_2.out)) hb)
                                have n6_ := Aside0.mk (below_step (by repeat (first | (with_reducible first | exact HB.out | apply below_alloc | apply pw_below_drewN | apply below_drew1) | exact HB.out)) hb)
                                clear HO_5
                                clear HO_7
                                clear HL299_2
                                clear HL300_2
                                clear HR299_2
                                clear HR300_2
                                clear HB
                                have HO_5 := n0_
                                have HO_7 := n1_
                                have HL299_2 := n2_
                                have HL300_2 := n3_
                                have HR299_2 := n4_
                                have HR300_2 := n5_
                                have HB := n6_
                                clear n0_ n1_ n2_ n3_ n4_ n5_ n6_
                                (try clear hb)
                                (try clear hb2)
                                (try clear hk)
                                (try clear hi)
                                refine hK.out _ _ ⟨HS0_, HS1_, HS2_, HS3_, HS4_, HS5_, HS6_, HS7_, HS8_, HS9_⟩ (fun hHeld => ?_)
                                clear hK K
                                refine norm_ (a' := ?_) ?_ ?_
                                rotate_left
                                · show Act.put _ (some 67) _ = _
                                  simp only [Act.put, List.setIfInBounds_toArray, List.set_cons_zero, List.set_cons_succ, i64_w, i32_w]
                                  rfl
                                refine pure_ (i := 9) (N := some 68) (v := ?_) (a' := ?_) #[true, true, true, true, true, true, true, true, true, true] rfl rfl (any_of HT_.out (by kernel_rfl)) (fun _ _ _ h => h) (Or.inl ⟨by rfl, ?_⟩) ?_ ?_
                                rotate_left
                                · intro w'
                                  go_simp
                                  with_reducible rfl
                                rotate_left
                                · simp only [Act.put, List.setIfInBounds_toArray, List.set_cons_zero, List.set_cons_succ, i64_w, i32_w]
                                  rfl
                                refine done_ (done_of HT_.out (by kernel_rfl)) ?_
                                try go_wp2
                                go_ret
                                exact ⟨by first | rfl | (simp [errW_none, errW_some] <;> rfl) | (simp only [← hji8]; first | rfl | (simp [errW_none, errW_some] <;> rfl)) | (simp [*, errW_none, errW_some] <;> rfl), by repeat (first | (with_reducible first | exact HB.out | apply below_alloc | apply pw_below_drewN | apply below_drew1) | exact HB.out)⟩
                            · rw [if_neg c33] at H
                              exact absurd H (by simp)
                          · rw [if_neg c32] at H
                            exact absurd H (by simp)
                        · rw [if_neg c31] at H
                          exact absurd H (by simp)
                      · rw [if_neg c30] at H
                        have c30b0 : decide (x56_2 < (t291.length : Int)) = false := decide_eq_false c30
                        clear c30
                        obtain rfl := Option.some.inj H
                        go_wp2
                        go_ret
                        exact ⟨by first | rfl | (simp [errW_none, errW_some] <;> rfl) | (simp only [← hji8]; first | rfl | (simp [errW_none, errW_some] <;> rfl)) | (simp [*, errW_none, errW_some] <;> rfl), by repeat (first | (with_reducible first | exact HB.out | apply below_alloc | apply pw_below_drewN | apply below_drew1) | exact HB.out)⟩
          · rw [if_neg c10] at H
            exact absurd H (by simp)
        · rw [if_neg c9] at H
          exact absurd H (by simp)
  · replace c4 := Bool.eq_false_iff.mpr c4
    subst c4
    have H1 : (some false) = some r := by rw [if_neg (show ¬ (false = true) by decide)] at H; exact H
    clear H
    have H := H1
    clear H1
    obtain rfl := Option.some.inj H
    go_enter Try.func4, Try.ntmps4
    go_wp2_with (first | ((with_reducible refine gate_callee (f := 5) rfl ?_); refine goesL_ (some 10) rfl rfl Try.func5 (by kernel_rfl) rfl #[] rfl (by (try simp only [List.map_toArray, List.map_cons, List.map_nil]); first | done | rfl | (simp only [List.length_drop, List.length_take]; rfl)) ?_; (with_reducible refine (crossroadlaw04_fit.calls k  false _ A3.out).mono ?_); rintro e w42 ⟨rfl, hb⟩; refine ⟨_, rfl, ?_⟩; have n0_ := Aside0.mk (below_step (by repeat (first | (with_reducible first | exact HB.out | apply below_alloc | apply pw_below_drewN | apply below_drew1) | exact HB.out)) hb); clear HB; have HB := n0_; clear n0_; (try clear hb); (try clear hb2); (try clear hk); (try clear hi)))
    go_ret
    exact ⟨by first | rfl | (simp [errW_none, errW_some] <;> rfl) | (simp [*, errW_none, errW_some] <;> rfl), by repeat (first | (with_reducible first | exact HB.out | apply below_alloc | apply pw_below_drewN | apply below_drew1) | exact HB.out)⟩

/-- THE ONE PURE STATEMENT of crossroadlaw04_CutterGrows: yours. -/
def crossroadlaw04_CutterGrows.Pure : Prop := ∀ (a0 : ByteArray) (a1 : Int), a0.size ≤ 140737488351232 → (Lit.int .i64 a1).wf = true → ∃ k, crossroadlaw04_CutterGrows.f k a0 a1 = some true
theorem crossroadlaw04_CutterGrows.walk (P : crossroadlaw04_CutterGrows.Pure) (a0 : ByteArray) (a1 : Int) (w : World) (w0 : a0.size ≤ 140737488351232) (w1 : (Lit.int .i64 a1).wf = true) :
    Calls Try.prog 4 #[.string a0, .int .i64 a1] w fun e w' => e = .returned (.bool true) ∧ Below w.heap.size w w' := by
  obtain ⟨k, h⟩ := P a0 a1 w0 w1
  refine (crossroadlaw04_CutterGrows.calls k a0 a1 true w h).mono ?_
  rintro e w' ⟨rfl, hd⟩
  exact ⟨rfl, hd⟩

end Go.Proofs.Ytldaingkcnmaoaa.X

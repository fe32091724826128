-- Written for this claim by a program of this session (wip/xprint.py). Not trusted: Lean checks it.
import Derived.Test.YtidkhbkndbnnjaaDoorX0
import Derived.Test.YtidkhbkndbnnjaaDoorX4
import Derived.Test.YtidkhbkndbnnjaaDoorX5
import Derived.Test.YtidkhbkndbnnjaaDoorX6
namespace Go.Proofs.YtidkhbkndbnnjaaDoor.X
open Go.RowKit Go.Proofs.YtidkhbkndbnnjaaDoorW.PrintWords Go.Proofs.YtidkhbkndbnnjaaDoorW.PrintLast Go.Proofs.YtidkhbkndbnnjaaDoorW.PrintMore
attribute [local go_sem] max2_int min2_int max_two min_two max_three min_three max_four min_four   -- for this text's walks alone
set_option linter.unusedVariables false
set_option linter.unusedSimpArgs false

/-! ### path_Pattern: function 11 -/
mutual
def path_Pattern.j0 : Nat → ByteArray → Bool → Option (List ByteArray × Bool)
  | 0, _, _ => none
  | k + 1, x0, x14 => if x14 = true then (some (([] : List ByteArray), false)) else (if x0.toList = ([47] : List UInt8) then (some (([] : List ByteArray), true)) else (if 1 ≤ (x0.size : Int) then ((ascii_Words.f k (x0.extract 1 x0.size) 47).bind fun t109 => (path_Pattern.l0 k t109 ([] : List (ByteArray × Bool)) t109 (t109.length : Int) 0)) else (none)))
def path_Pattern.l0 : Nat → List ByteArray → List (ByteArray × Bool) → List ByteArray → Int → Int → Option (List ByteArray × Bool)
  | 0, _, _, _, _, _ => none
  | k + 1, x4, x5, x21, x22, x23 => if x23 < x22 then (if 0 ≤ x23 then (if x23 < (x21.length : Int) then ((path_Kind.f k (rdOf ByteArray.empty x21 x23)).bind fun t113 => (if t113 = 0 then ((ascii_Token.f k (rdOf ByteArray.empty x21 x23)).bind fun t115 => (if t115 = true then ((ascii_Words.f k (rdOf ByteArray.empty x21 x23) 37).bind fun t116 => (if 0 < (t116.length : Int) then (if (rdOf ByteArray.empty t116 0).toList = (rdOf ByteArray.empty x21 x23).toList then (path_Pattern.l0 k x4 x5 x21 x22 (wrap64 (x23 + 1))) else (some (([] : List ByteArray), false))) else (none))) else (some (([] : List ByteArray), false)))) else (if t113 = 2 then (if x23 = (wrap64 ((x4.length : Int) - 1)) then (if 1 ≤ ((rdOf ByteArray.empty x21 x23).size : Int) then ((ascii_Token.f k ((rdOf ByteArray.empty x21 x23).extract 1 (rdOf ByteArray.empty x21 x23).size)).bind fun t120 => (if t120 = true then (if ((rdOf ByteArray.empty x21 x23).extract 1 (rdOf ByteArray.empty x21 x23).size).size ≤ 9223372036854775807 then (if mapGet false x5 ((rdOf ByteArray.empty x21 x23).extract 1 (rdOf ByteArray.empty x21 x23).size) = true then (some (([] : List ByteArray), false)) else (if x5.length < 9223372036854775807 then (path_Pattern.l0 k x4 (((rdOf ByteArray.empty x21 x23).extract 1 (rdOf ByteArray.empty x21 x23).size, true) :: x5) x21 x22 (wrap64 (x23 + 1))) else (none))) else (none)) else (some (([] : List ByteArray), false)))) else (none)) else (some (([] : List ByteArray), false))) else (if t113 = 1 then (if 1 ≤ ((rdOf ByteArray.empty x21 x23).size : Int) then ((ascii_Token.f k ((rdOf ByteArray.empty x21 x23).extract 1 (rdOf ByteArray.empty x21 x23).size)).bind fun t114 => (if t114 = true then (if ((rdOf ByteArray.empty x21 x23).extract 1 (rdOf ByteArray.empty x21 x23).size).size ≤ 9223372036854775807 then (if mapGet false x5 ((rdOf ByteArray.empty x21 x23).extract 1 (rdOf ByteArray.empty x21 x23).size) = true then (some (([] : List ByteArray), false)) else (if x5.length < 9223372036854775807 then (path_Pattern.l0 k x4 (((rdOf ByteArray.empty x21 x23).extract 1 (rdOf ByteArray.empty x21 x23).size, true) :: x5) x21 x22 (wrap64 (x23 + 1))) else (none))) else (none)) else (some (([] : List ByteArray), false)))) else (none)) else (path_Pattern.l0 k x4 x5 x21 x22 (wrap64 (x23 + 1))))))) else (none)) else (none)) else (some (x4, decide ((x4.length : Int) ≤ 8)))
end
def path_Pattern.f (k : Nat) (a0 : ByteArray) : Option (List ByteArray × Bool) := if a0.toList = ([] : List UInt8) then (path_Pattern.j0 k a0 true) else (if 0 < (a0.size : Int) then (path_Pattern.j0 k a0 ((bt a0 0) != 47)) else (none))
theorem path_Pattern.mono_l : ∀ k, (∀ y0 y1, LeO (path_Pattern.j0 k y0 y1) (path_Pattern.j0 (k + 1) y0 y1)) ∧ (∀ y0 y1 y2 y3 y4, LeO (path_Pattern.l0 k y0 y1 y2 y3 y4) (path_Pattern.l0 (k + 1) y0 y1 y2 y3 y4))
  | 0 => ⟨fun _ _ r h => by simp [path_Pattern.j0] at h, fun _ _ _ _ _ r h => by simp [path_Pattern.l0] at h⟩
  | k + 1 => by
    obtain ⟨ih0, ih1⟩ := path_Pattern.mono_l k
    refine ⟨?_, ?_⟩
    · intro y0 y1
      unfold path_Pattern.j0
      repeat' first
      | (with_reducible exact ih0 _ _)
      | (with_reducible exact ih1 _ _ _ _ _)
      | (with_reducible exact ascii_Token.mono _ _)
      | (with_reducible exact ascii_Words.mono _ _ _)
      | (with_reducible exact path_Kind.mono _ _)
      | (with_reducible exact LeO.refl _)
      | (with_reducible exact LeO.none _)
      | (with_reducible refine LeO.ite ?_ ?_)
      | (with_reducible refine LeO.bind ?_ (fun _ => ?_))
      | exact ih0 _ _
      | exact ih1 _ _ _ _ _
      | exact ascii_Token.mono _ _
      | exact ascii_Words.mono _ _ _
      | exact path_Kind.mono _ _
      | exact LeO.none _
      | refine LeO.ite ?_ ?_
      | refine LeO.bind ?_ (fun _ => ?_)
    · intro y0 y1 y2 y3 y4
      unfold path_Pattern.l0
      repeat' first
      | (with_reducible exact ih0 _ _)
      | (with_reducible exact ih1 _ _ _ _ _)
      | (with_reducible exact ascii_Token.mono _ _)
      | (with_reducible exact ascii_Words.mono _ _ _)
      | (with_reducible exact path_Kind.mono _ _)
      | (with_reducible exact LeO.refl _)
      | (with_reducible exact LeO.none _)
      | (with_reducible refine LeO.ite ?_ ?_)
      | (with_reducible refine LeO.bind ?_ (fun _ => ?_))
      | exact ih0 _ _
      | exact ih1 _ _ _ _ _
      | exact ascii_Token.mono _ _
      | exact ascii_Words.mono _ _ _
      | exact path_Kind.mono _ _
      | exact LeO.none _
      | refine LeO.ite ?_ ?_
      | refine LeO.bind ?_ (fun _ => ?_)
theorem path_Pattern.mono : ∀ a0 k, LeO (path_Pattern.f k a0) (path_Pattern.f (k + 1) a0) := by
  intro a0 k
  obtain ⟨ih0, ih1⟩ := path_Pattern.mono_l k
  unfold path_Pattern.f
  repeat' first
      | (with_reducible exact ih0 _ _)
      | (with_reducible exact ih1 _ _ _ _ _)
      | (with_reducible exact ascii_Token.mono _ _)
      | (with_reducible exact ascii_Words.mono _ _ _)
      | (with_reducible exact path_Kind.mono _ _)
      | (with_reducible exact LeO.refl _)
      | (with_reducible exact LeO.none _)
      | (with_reducible refine LeO.ite ?_ ?_)
      | (with_reducible refine LeO.bind ?_ (fun _ => ?_))
      | exact ih0 _ _
      | exact ih1 _ _ _ _ _
      | exact ascii_Token.mono _ _
      | exact ascii_Words.mono _ _ _
      | exact path_Kind.mono _ _
      | exact LeO.none _
      | refine LeO.ite ?_ ?_
      | refine LeO.bind ?_ (fun _ => ?_)
set_option maxHeartbeats 8000000 in
set_option maxRecDepth 100000 in
theorem path_Pattern.calls (k : Nat) (a0 : ByteArray) (r1 : List ByteArray) (r2 : Bool) (w : World) (h : path_Pattern.f k a0 = some (r1, r2)) :
    Calls Tryd.prog 11 #[.string a0] w fun e w' => ∃ v0_ : Value, e = .returned (.tuple #[v0_, .bool r2]) ∧ Kd.R Kd.string 9 w' w.heap.size (fun _ => True) v0_ r1 ∧ Below w.heap.size w w' := by
  have HB := Aside0.mk (Below.refl w.heap.size w)
  have H : (if a0.toList = ([] : List UInt8) then (path_Pattern.j0 k a0 true) else (if 0 < (a0.size : Int) then (path_Pattern.j0 k a0 ((bt a0 0) != 47)) else (none))) = some (r1, r2) := h
  clear h
  have HC2 := Aside0.mk H
  clear H
  go_enter Tryd.func11, Tryd.ntmps11
  go_upto_region 1 with (fail)
  go_cut [14] (fun v14 wc => ∃ (kq : Nat) (x14_1 : Bool), v14 = .bool x14_1 ∧ Aside0 (path_Pattern.j0 kq a0 x14_1 = some (r1, r2)) ∧ Aside0 (kq ≤ k) ∧ Aside0 (Below w.heap.size w wc))
  case first =>
    have H := HC2.out
    clear HC2
    by_cases c3 : a0.toList = ([] : List UInt8)
    · rw [if_pos c3] at H
      have c3b0 : (a0.toList == ([] : List UInt8)) = true := beq_iff_eq.mpr c3
      have c3b1 : (a0.toList != ([] : List UInt8)) = false := bne_eq_false_iff_eq.mpr c3
      clear c3
      (first | rw [c3b0] | (simp only [i64_w, i32_w]; rw [c3b0]) | skip)
      have H' := Aside0.mk H
      clear H
      go_wp2_with (first | ((with_reducible refine gate_dst (N := 20) rfl ?_); refine wpList_makeMap_map (base := w.heap.size) K47 E47 rfl 47 rfl (below_size (by repeat (first | (with_reducible first | exact HB.out | apply below_alloc | apply pw_below_drewN | apply below_drew1 | refine below_set ?_ (Aside0.out (by assumption))) | exact HB.out))) ?_; intro VM wM_ hm_ hb_; have HM := Aside0.mk hm_; have nB_ := Aside0.mk (below_step (by repeat (first | (with_reducible first | exact HB.out | apply below_alloc | apply pw_below_drewN | apply below_drew1 | refine below_set ?_ (Aside0.out (by assumption))) | exact HB.out)) hb_); clear HB; have HB := nB_; clear nB_ hm_; clear hb_))
      go_meet
      case rel => exact ⟨_, (true), (by first | rfl | (simp; done) | (simp [*]; done)), H', ⟨by first | omega | exact Nat.le_refl _⟩, ⟨by repeat (first | (with_reducible first | exact HB.out | apply below_alloc | apply pw_below_drewN | apply below_drew1) | exact HB.out)⟩⟩
    · rw [if_neg c3] at H
      have c3b0 : (a0.toList == ([] : List UInt8)) = false := beq_eq_false_iff_ne.mpr c3
      have c3b1 : (a0.toList != ([] : List UInt8)) = true := bne_iff_ne.mpr c3
      (first | rw [c3b0] | (simp only [i64_w, i32_w]; rw [c3b0]) | skip)
      by_cases c4 : 0 < (a0.size : Int)
      · rw [if_pos c4] at H
        have c4b0 : decide (0 < (a0.size : Int)) = true := decide_eq_true c4
        have c4b1 : decide (0 < a0.size) = true := decide_eq_true (by omega)
        clear c4
        have H' := Aside0.mk H
        clear H
        have p5 : 0 ≤ (0 : Int) := (by omega)
        have q5 : 0 < a0.size := (by have : (0 : Int) < (a0.size : Int) := of_decide_eq_true (by first | (with_reducible assumption) | assumption); omega)
        have hx5 : ∀ h : 0 < a0.size, ((a0[0]'h).toNat : Int) = bt a0 0 := bt_at a0 0
        clear p5
        have qi5 : (0 < (a0.size : Int)) = True := eq_true (of_decide_eq_true (by first | (with_reducible assumption) | assumption))
        replace q5 := eq_true q5
        go_wp2_with (first | ((with_reducible refine gate_dst (N := 20) rfl ?_); refine wpList_makeMap_map (base := w.heap.size) K47 E47 rfl 47 rfl (below_size (by repeat (first | (with_reducible first | exact HB.out | apply below_alloc | apply pw_below_drewN | apply below_drew1 | refine below_set ?_ (Aside0.out (by assumption))) | exact HB.out))) ?_; intro VM wM_ hm_ hb_; have HM := Aside0.mk hm_; have nB_ := Aside0.mk (below_step (by repeat (first | (with_reducible first | exact HB.out | apply below_alloc | apply pw_below_drewN | apply below_drew1 | refine below_set ?_ (Aside0.out (by assumption))) | exact HB.out)) hb_); clear HB; have HB := nB_; clear nB_ hm_; clear hb_))
        go_meet
        case rel => exact ⟨_, (((bt a0 0) != 47)), (by first | rfl | (simp; done) | (simp [*]; done)), H', ⟨by first | omega | exact Nat.le_refl _⟩, ⟨by repeat (first | (with_reducible first | exact HB.out | apply below_alloc | apply pw_below_drewN | apply below_drew1) | exact HB.out)⟩⟩
      · rw [if_neg c4] at H
        exact absurd H (by simp)
  case rest =>
    clear HC2
    try clear c1
    try clear p2
    try clear c3
    try clear c3b0
    try clear c3b1
    try clear c4
    try clear c4b0
    try clear c4b1
    try clear p5
    try clear q5
    try clear hx5
    try clear qi5
    try clear p5
    try clear q5
    obtain ⟨kq, x14_1, rfl, HA, HJ1, HB⟩ := hcut
    cases kq with
    | zero => exact absurd HA.out (by simp [path_Pattern.j0])
    | succ kj1 =>
      have H := HA.out
      clear HA
      simp only [path_Pattern.j0] at H
      by_cases c6 : x14_1 = true
      · subst c6
        have H1 : (some (([] : List ByteArray), false)) = some (r1, r2) := by rw [if_pos rfl] at H; exact H
        clear H
        have H := H1
        clear H1
        simp only [Option.some.injEq, Prod.mk.injEq] at H
        obtain ⟨rfl, rfl⟩ := H
        go_wp2_with (first | ((with_reducible refine gate_dst (N := 20) rfl ?_); refine wpList_makeMap_map (base := w.heap.size) K47 E47 rfl 47 rfl (below_size (by repeat (first | (with_reducible first | exact HB.out | apply below_alloc | apply pw_below_drewN | apply below_drew1 | refine below_set ?_ (Aside0.out (by assumption))) | exact HB.out))) ?_; intro VM wM_ hm_ hb_; have HM := Aside0.mk hm_; have nB_ := Aside0.mk (below_step (by repeat (first | (with_reducible first | exact HB.out | apply below_alloc | apply pw_below_drewN | apply below_drew1 | refine below_set ?_ (Aside0.out (by assumption))) | exact HB.out)) hb_); clear HB; have HB := nB_; clear nB_ hm_; clear hb_))
        go_ret2
        exact ⟨_, by first | rfl | (simp [errW_none, errW_some] <;> rfl) | (simp [*, errW_none, errW_some] <;> rfl), by first | exact Kd.R_nil _ _ _ _ _ | exact Kd.N_nil _ _ _ _ _ | exact Kd.V_nil _ _ _ _ _ | exact Kd.Q_nil _ _ _ _ _ | exact Kd.S_nil _ _ _ _ _, by repeat (first | (with_reducible first | exact HB.out | apply below_alloc | apply pw_below_drewN | apply below_drew1) | exact HB.out)⟩
      · replace c6 := Bool.eq_false_iff.mpr c6
        subst c6
        have H1 : (if a0.toList = ([47] : List UInt8) then (some (([] : List ByteArray), true)) else (if 1 ≤ (a0.size : Int) then ((ascii_Words.f kj1 (a0.extract 1 a0.size) 47).bind fun t109 => (path_Pattern.l0 kj1 t109 ([] : List (ByteArray × Bool)) t109 (t109.length : Int) 0)) else (none))) = some (r1, r2) := by rw [if_neg (show ¬ (false = true) by decide)] at H; exact H
        clear H
        have H := H1
        clear H1
        by_cases c7 : a0.toList = ([47] : List UInt8)
        · rw [if_pos c7] at H
          have c7b0 : (a0.toList == ([47] : List UInt8)) = true := beq_iff_eq.mpr c7
          have c7b1 : (a0.toList != ([47] : List UInt8)) = false := bne_eq_false_iff_eq.mpr c7
          clear c7
          simp only [Option.some.injEq, Prod.mk.injEq] at H
          obtain ⟨rfl, rfl⟩ := H
          go_wp2_with (first | ((with_reducible refine gate_dst (N := 20) rfl ?_); refine wpList_makeMap_map (base := w.heap.size) K47 E47 rfl 47 rfl (below_size (by repeat (first | (with_reducible first | exact HB.out | apply below_alloc | apply pw_below_drewN | apply below_drew1 | refine below_set ?_ (Aside0.out (by assumption))) | exact HB.out))) ?_; intro VM wM_ hm_ hb_; have HM := Aside0.mk hm_; have nB_ := Aside0.mk (below_step (by repeat (first | (with_reducible first | exact HB.out | apply below_alloc | apply pw_below_drewN | apply below_drew1 | refine below_set ?_ (Aside0.out (by assumption))) | exact HB.out)) hb_); clear HB; have HB := nB_; clear nB_ hm_; clear hb_))
          go_ret2
          exact ⟨_, by first | rfl | (simp [errW_none, errW_some] <;> rfl) | (simp [*, errW_none, errW_some] <;> rfl), by first | exact Kd.R_nil _ _ _ _ _ | exact Kd.N_nil _ _ _ _ _ | exact Kd.V_nil _ _ _ _ _ | exact Kd.Q_nil _ _ _ _ _ | exact Kd.S_nil _ _ _ _ _, by repeat (first | (with_reducible first | exact HB.out | apply below_alloc | apply pw_below_drewN | apply below_drew1) | exact HB.out)⟩
        · rw [if_neg c7] at H
          have c7b0 : (a0.toList == ([47] : List UInt8)) = false := beq_eq_false_iff_ne.mpr c7
          have c7b1 : (a0.toList != ([47] : List UInt8)) = true := bne_iff_ne.mpr c7
          by_cases c8 : 1 ≤ (a0.size : Int)
          · rw [if_pos c8] at H
            have c8b0 := eq_true c8
            have c8b1 : decide (1 ≤ (a0.size : Int)) = true := decide_eq_true c8
            clear c8
            replace H := Option.bind_eq_some_iff.mp H
            obtain ⟨t109, A90, H⟩ := H
            replace H : (path_Pattern.l0 kj1 t109 ([] : List (ByteArray × Bool)) t109 (t109.length : Int) 0) = some (r1, r2) := H
            have A9 := Aside0.mk A90
            clear A90
            have H' := Aside0.mk H
            clear H
            go_wp2_with (first | ((with_reducible refine gate_dst (N := 20) rfl ?_); refine wpList_makeMap_map (base := w.heap.size) K47 E47 rfl 47 rfl (below_size (by repeat (first | (with_reducible first | exact HB.out | apply below_alloc | apply pw_below_drewN | apply below_drew1 | refine below_set ?_ (Aside0.out (by assumption))) | exact HB.out))) ?_; intro VM wM_ hm_ hb_; have HM := Aside0.mk hm_; have nB_ := Aside0.mk (below_step (by repeat (first | (with_reducible first | exact HB.out | apply below_alloc | apply pw_below_drewN | apply below_drew1 | refine below_set ?_ (Aside0.out (by assumption))) | exact HB.out)) hb_); clear HB; have HB := nB_; clear nB_ hm_; (try (have nO_ := Aside0.mk (Kd.R_below (by (with_reducible repeat (first | apply Kd.R_alloc | apply Kd.R_drewN | apply Kd.R_drew)); exact HO111.out) hb_); clear HO111; have HO111 := nO_; clear nO_)); clear hb_) | ((with_reducible refine gate_callee (f := 22) rfl ?_); refine goesL_ (some 19) rfl rfl Tryd.func22 (by kernel_rfl) rfl #[.string (a0.extract 1 a0.size), .int .u8 47] rfl (by (try simp only [List.map_toArray, List.map_cons, List.map_nil]); first | done | rfl | (simp only [List.length_drop, List.length_take]; rfl)) ?_; (with_reducible refine (ascii_Words.calls kj1 (a0.extract 1 a0.size) 47 t109 _ A9.out).mono ?_); rintro e w10 ⟨v110, rfl, ho0, hb⟩; refine ⟨_, rfl, ?_⟩; have n0_ := Aside0.mk (Kd.R_lower ho0 (below_size (by repeat (first | (with_reducible first | exact HB.out | apply below_alloc | apply pw_below_drewN | apply below_drew1) | exact HB.out)))); have n1_ := Aside0.mk (below_step (by repeat (first | (with_reducible first | exact HB.out | apply below_alloc | apply pw_below_drewN | apply below_drew1) | exact HB.out)) hb); clear HB; have HO111 := n0_; have HB := n1_; clear n0_ n1_; (try clear hb); (try clear hb2); (try clear hk); (try clear hi); (try clear ho0); obtain ⟨Ao11, co11, eo11⟩ := Kd.R_slice HO111.out; subst eo11))
            go_loopg [23] kj1 (fun kq v23 w' => ∃ (x5_2 : List (ByteArray × Bool)) (x23_2 : Int), v23 = .int .i64 x23_2 ∧ Aside0 (path_Pattern.l0 kq t109 x5_2 t109 (t109.length : Int) x23_2 = some (r1, r2)) ∧ Aside0 (kq ≤ kj1) ∧ Aside0 (Kd.R Kd.string 9 w' w.heap.size (fun _ => True) (.slice Ao11 t109.length co11) t109) ∧ Aside0 (Kd.R Kd.string 9 w' w.heap.size (fun _ => True) (.slice Ao11 t109.length co11) t109) ∧ Aside0 (MapOwn K47 E47 w' w.heap.size VM x5_2) ∧ Aside0 (Below w.heap.size w w'))
            case atStart => exact ⟨(([] : List (ByteArray × Bool))), (0), (by first | rfl | (simp; done) | (simp [*]; done)), H', ⟨Nat.le_refl _⟩, ⟨by (with_reducible repeat (first | apply Kd.R_alloc | apply Kd.R_drewN | apply Kd.R_drew)); exact HO111.out⟩, ⟨by (with_reducible repeat (first | apply Kd.R_alloc | apply Kd.R_drewN | apply Kd.R_drew)); exact HO111.out⟩, ⟨by (with_reducible repeat (first | apply MapOwn.alloc | apply MapOwn.drewN | apply MapOwn.drew | apply MapOwn.setAny)); exact HM.out⟩, ⟨by repeat (first | (with_reducible first | exact HB.out | apply below_alloc | apply pw_below_drewN | apply below_drew1) | exact HB.out)⟩⟩
            case round =>
              clear H'
              try clear c1
              try clear c2
              try clear p2
              try clear c3
              try clear c3b0
              try clear c3b1
              try clear c4
              try clear c4b0
              try clear c4b1
              try clear p5
              try clear q5
              try clear hx5
              try clear qi5
              try clear c6
              try clear c7
              try clear c7b0
              try clear c7b1
              try clear c8
              try clear c8b0
              try clear c8b1
              try clear c11
              try clear p2
              try clear p5
              try clear q5
              obtain ⟨x5_2, x23_2, rfl, HA, HK2, HO_4, HO_21, HM, HB⟩ := hrel
              cases gk with
              | zero => exact absurd HA.out (by simp [path_Pattern.l0])
              | succ k2 =>
                have H := HA.out
                clear HA
                simp only [path_Pattern.l0] at H
                by_cases c12 : x23_2 < (t109.length : Int)
                · rw [if_pos c12] at H
                  have c12b0 : decide (x23_2 < (t109.length : Int)) = true := decide_eq_true c12
                  clear c12
                  by_cases c13 : 0 ≤ x23_2
                  · rw [if_pos c13] at H
                    have c13b0 : decide (0 ≤ x23_2) = true := decide_eq_true c13
                    clear c13
                    by_cases c14 : x23_2 < (t109.length : Int)
                    · rw [if_pos c14] at H
                      have c14b0 : decide (x23_2 < (t109.length : Int)) = true := decide_eq_true c14
                      clear c14
                      replace H := Option.bind_eq_some_iff.mp H
                      obtain ⟨t113, A150, H⟩ := H
                      replace H : (if t113 = 0 then ((ascii_Token.f k2 (rdOf ByteArray.empty t109 x23_2)).bind fun t115 => (if t115 = true then ((ascii_Words.f k2 (rdOf ByteArray.empty t109 x23_2) 37).bind fun t116 => (if 0 < (t116.length : Int) then (if (rdOf ByteArray.empty t116 0).toList = (rdOf ByteArray.empty t109 x23_2).toList then (path_Pattern.l0 k2 t109 x5_2 t109 (t109.length : Int) (wrap64 (x23_2 + 1))) else (some (([] : List ByteArray), false))) else (none))) else (some (([] : List ByteArray), false)))) else (if t113 = 2 then (if x23_2 = (wrap64 ((t109.length : Int) - 1)) then (if 1 ≤ ((rdOf ByteArray.empty t109 x23_2).size : Int) then ((ascii_Token.f k2 ((rdOf ByteArray.empty t109 x23_2).extract 1 (rdOf ByteArray.empty t109 x23_2).size)).bind fun t120 => (if t120 = true then (if ((rdOf ByteArray.empty t109 x23_2).extract 1 (rdOf ByteArray.empty t109 x23_2).size).size ≤ 9223372036854775807 then (if mapGet false x5_2 ((rdOf ByteArray.empty t109 x23_2).extract 1 (rdOf ByteArray.empty t109 x23_2).size) = true then (some (([] : List ByteArray), false)) else (if x5_2.length < 9223372036854775807 then (path_Pattern.l0 k2 t109 (((rdOf ByteArray.empty t109 x23_2).extract 1 (rdOf ByteArray.empty t109 x23_2).size, true) :: x5_2) t109 (t109.length : Int) (wrap64 (x23_2 + 1))) else (none))) else (none)) else (some (([] : List ByteArray), false)))) else (none)) else (some (([] : List ByteArray), false))) else (if t113 = 1 then (if 1 ≤ ((rdOf ByteArray.empty t109 x23_2).size : Int) then ((ascii_Token.f k2 ((rdOf ByteArray.empty t109 x23_2).extract 1 (rdOf ByteArray.empty t109 x23_2).size)).bind fun t114 => (if t114 = true then (if ((rdOf ByteArray.empty t109 x23_2).extract 1 (rdOf ByteArray.empty t109 x23_2).size).size ≤ 9223372036854775807 then (if mapGet false x5_2 ((rdOf ByteArray.empty t109 x23_2).extract 1 (rdOf ByteArray.empty t109 x23_2).size) = true then (some (([] : List ByteArray), false)) else (if x5_2.length < 9223372036854775807 then (path_Pattern.l0 k2 t109 (((rdOf ByteArray.empty t109 x23_2).extract 1 (rdOf ByteArray.empty t109 x23_2).size, true) :: x5_2) t109 (t109.length : Int) (wrap64 (x23_2 + 1))) else (none))) else (none)) else (some (([] : List ByteArray), false)))) else (none)) else (path_Pattern.l0 k2 t109 x5_2 t109 (t109.length : Int) (wrap64 (x23_2 + 1)))))) = some (r1, r2) := H
                      have A15 := Aside0.mk A150
                      clear A150
                      by_cases c16 : t113 = 0
                      · rw [if_pos c16] at H
                        have c16b0 : (t113 == 0) = true := beq_iff_eq.mpr c16
                        have c16b1 : (t113 != 0) = false := bne_eq_false_iff_eq.mpr c16
                        clear c16
                        replace H := Option.bind_eq_some_iff.mp H
                        obtain ⟨t115, A170, H⟩ := H
                        replace H : (if t115 = true then ((ascii_Words.f k2 (rdOf ByteArray.empty t109 x23_2) 37).bind fun t116 => (if 0 < (t116.length : Int) then (if (rdOf ByteArray.empty t116 0).toList = (rdOf ByteArray.empty t109 x23_2).toList then (path_Pattern.l0 k2 t109 x5_2 t109 (t109.length : Int) (wrap64 (x23_2 + 1))) else (some (([] : List ByteArray), false))) else (none))) else (some (([] : List ByteArray), false))) = some (r1, r2) := H
                        have A17 := Aside0.mk A170
                        clear A170
                        by_cases c18 : t115 = true
                        · subst c18
                          have H1 : ((ascii_Words.f k2 (rdOf ByteArray.empty t109 x23_2) 37).bind fun t116 => (if 0 < (t116.length : Int) then (if (rdOf ByteArray.empty t116 0).toList = (rdOf ByteArray.empty t109 x23_2).toList then (path_Pattern.l0 k2 t109 x5_2 t109 (t109.length : Int) (wrap64 (x23_2 + 1))) else (some (([] : List ByteArray), false))) else (none))) = some (r1, r2) := by rw [if_pos rfl] at H; exact H
                          clear H
                          have H := H1
                          clear H1
                          replace H := Option.bind_eq_some_iff.mp H
                          obtain ⟨t116, A190, H⟩ := H
                          replace H : (if 0 < (t116.length : Int) then (if (rdOf ByteArray.empty t116 0).toList = (rdOf ByteArray.empty t109 x23_2).toList then (path_Pattern.l0 k2 t109 x5_2 t109 (t109.length : Int) (wrap64 (x23_2 + 1))) else (some (([] : List ByteArray), false))) else (none)) = some (r1, r2) := H
                          have A19 := Aside0.mk A190
                          clear A190
                          by_cases c20 : 0 < (t116.length : Int)
                          · rw [if_pos c20] at H
                            have c20b0 : decide (0 < (t116.length : Int)) = true := decide_eq_true c20
                            have c20b1 : decide (0 < t116.length) = true := decide_eq_true (by omega)
                            clear c20
                            by_cases c21 : (rdOf ByteArray.empty t116 0).toList = (rdOf ByteArray.empty t109 x23_2).toList
                            · rw [if_pos c21] at H
                              have c21b0 : ((rdOf ByteArray.empty t116 0).toList == (rdOf ByteArray.empty t109 x23_2).toList) = true := beq_iff_eq.mpr c21
                              have c21b1 : ((rdOf ByteArray.empty t116 0).toList != (rdOf ByteArray.empty t109 x23_2).toList) = false := bne_eq_false_iff_eq.mpr c21
                              clear c21
                              have H' := Aside0.mk H
                              clear H
                              have p112 : 0 ≤ (x23_2 : Int) := of_decide_eq_true (by first | (with_reducible assumption) | assumption)
                              have q112 : x23_2 < (t109.length : Int) := of_decide_eq_true (by first | (with_reducible assumption) | assumption)
                              obtain ⟨ad112, e112, hx112_0⟩ := Kd.at_string (Kd.R_reads' HO_21.out).2.2 x23_2 p112 q112
                              cases e112
                              replace p112 := eq_true p112
                              replace q112 := eq_true q112
                              go_wp2_with (first | (at_lookup; (try (refine gate_guard (by rfl) ?_; dsimp only)); refine wpList_lookup_map_bool (K := K47) (base := w.heap.size) z47 _ Tryd.underlying4 rfl _ _ 47 rfl Tryd.underlying47 _ ?hok rfl rfl (by (with_reducible repeat (first | apply MapOwn.alloc | apply MapOwn.drewN | apply MapOwn.drew | apply MapOwn.setAny)); exact HM.out) ?_; (case hok => show (ByteArray.size _) ≤ 9223372036854775807; first | assumption | exact of_decide_eq_true (by first | (with_reducible assumption) | assumption))) | (at_mapUpdate; (try (refine gate_guard (by rfl) ?_; dsimp only)); refine wpList_mapUpdate_map_bool (K := K47) (base := w.heap.size) z47 Tryd.underlying4 _ rfl _ _ _ 47 rfl Tryd.underlying47 _ _ ?hok rfl rfl rfl (by (with_reducible repeat (first | apply MapOwn.alloc | apply MapOwn.drewN | apply MapOwn.drew | apply MapOwn.setAny)); exact HM.out) (by first | assumption | exact of_decide_eq_true (by first | (with_reducible assumption) | assumption)) ?_; (case hok => show (ByteArray.size _) ≤ 9223372036854775807; first | assumption | exact of_decide_eq_true (by first | (with_reducible assumption) | assumption)); intro wM_ hm_ hg_; have nO0_ := Aside0.mk (Kd.R_mapped (by (with_reducible repeat (first | apply Kd.R_alloc | apply Kd.R_drewN | apply Kd.R_drew)); exact HO_4.out) (by (with_reducible repeat (first | apply MapOwn.alloc | apply MapOwn.drewN | apply MapOwn.drew | apply MapOwn.setAny)); exact HM.out : MapOwn K47 E47 _ w.heap.size _ _) hg_); have nO1_ := Aside0.mk (Kd.R_mapped (by (with_reducible repeat (first | apply Kd.R_alloc | apply Kd.R_drewN | apply Kd.R_drew)); exact HO_21.out) (by (with_reducible repeat (first | apply MapOwn.alloc | apply MapOwn.drewN | apply MapOwn.drew | apply MapOwn.setAny)); exact HM.out : MapOwn K47 E47 _ w.heap.size _ _) hg_); have nB_ := Aside0.mk (below_mapped (by repeat (first | (with_reducible first | exact HB.out | apply below_alloc | apply pw_below_drewN | apply below_drew1 | refine below_set ?_ (Aside0.out (by assumption))) | exact HB.out)) (by (with_reducible repeat (first | apply MapOwn.alloc | apply MapOwn.drewN | apply MapOwn.drew | apply MapOwn.setAny)); exact HM.out : MapOwn K47 E47 _ w.heap.size _ _) (Nat.le_refl _) hg_); clear HB HM HO_4 HO_21; have HM := Aside0.mk hm_; have HB := nB_; clear nB_ hm_ hg_; have HO_4 := nO0_; clear nO0_; have HO_21 := nO1_; clear nO1_) | ((with_reducible refine gate_callee (f := 21) rfl ?_); refine goesL_ (some 29) rfl rfl Tryd.func21 (by kernel_rfl) rfl #[.string (rdOf ByteArray.empty t109 x23_2)] rfl (by (try simp only [List.map_toArray, List.map_cons, List.map_nil]); first | done | rfl | (simp only [List.length_drop, List.length_take]; rfl)) ?_; (with_reducible refine (path_Kind.calls k2 (rdOf ByteArray.empty t109 x23_2) t113 _ A15.out).mono ?_); rintro e w' ⟨rfl, ⟨nd, rfl⟩⟩; refine ⟨_, rfl, ?_⟩) | ((with_reducible refine gate_callee (f := 15) rfl ?_); refine goesL_ (some 37) rfl rfl Tryd.func15 (by kernel_rfl) rfl #[.string (rdOf ByteArray.empty t109 x23_2)] rfl (by (try simp only [List.map_toArray, List.map_cons, List.map_nil]); first | done | rfl | (simp only [List.length_drop, List.length_take]; rfl)) ?_; (with_reducible refine (ascii_Token.calls k2 (rdOf ByteArray.empty t109 x23_2) true _ A17.out).mono ?_); rintro e w' ⟨rfl, ⟨nd, rfl⟩⟩; refine ⟨_, rfl, ?_⟩) | (go_at_call 22; (with_reducible refine (ascii_Words.calls k2 (rdOf ByteArray.empty t109 x23_2) 37 t116 _ A19.out).mono ?_); rintro e w22 ⟨v117, rfl, ho0, hb⟩; (try (have nM_ := Aside0.mk (MapOwn.below (K := K47) (E := E47) (by (with_reducible repeat (first | apply MapOwn.alloc | apply MapOwn.drewN | apply MapOwn.drew | apply MapOwn.setAny)); exact HM.out) hb); clear HM; have HM := nM_; clear nM_)); have n0_ := Aside0.mk (Kd.R_elder' (by (with_reducible repeat (first | apply Kd.R_alloc | apply Kd.R_drewN | apply Kd.R_drew)); exact HO_4.out) (Kd.R_base ho0) hb); have n1_ := Aside0.mk (Kd.R_elder' (by (with_reducible repeat (first | apply Kd.R_alloc | apply Kd.R_drewN | apply Kd.R_drew)); exact HO_21.out) (Kd.R_base ho0) hb); have n2_ := Aside0.mk (Kd.R_lower (Kd.R_new' (Kd.R_new' ho0 (Kd.R_lt (by (with_reducible repeat (first | apply Kd.R_alloc | apply Kd.R_drewN | apply Kd.R_drew)); exact HO_4.out))) (Kd.R_lt (by (with_reducible repeat (first | apply Kd.R_alloc | apply Kd.R_drewN | apply Kd.R_drew)); exact HO_21.out))) (below_size (by repeat (first | (with_reducible first | exact HB.out | apply below_alloc | apply pw_below_drewN | apply below_drew1) | exact HB.out)))); have n3_ := Aside0.mk (below_step (by repeat (first | (with_reducible first | exact HB.out | apply below_alloc | apply pw_below_drewN | apply below_drew1) | exact HB.out)) hb); clear HO_4; clear HO_21; clear HB; have HO_4 := n0_; have HO_21 := n1_; have HO118 := n2_; have HB := n3_; clear n0_ n1_ n2_ n3_; (try clear hb); (try clear hb2); (try clear hk); (try clear hi); (try clear ho0); obtain ⟨Ao23, co23, eo23⟩ := Kd.R_slice HO118.out; subst eo23; have p119 : 0 ≤ (0 : Int) := (by omega); have q119 : 0 < (t116.length : Int) := of_decide_eq_true (by first | (with_reducible assumption) | assumption); obtain ⟨ad119, e119, hx119_0⟩ := Kd.at_string (Kd.R_reads' HO118.out).2.2 0 p119 q119; cases e119; have qi119 : (0 < t116.length) = True := eq_true (by omega); (try rw [show ((0 : Int)).toNat = 0 from rfl] at hx119_0); (try rw [Addr.add_zero'] at hx119_0); replace p119 := eq_true p119; replace q119 := eq_true q119))
                              go_roundg k2
                              case measure => have := HJ1.out; have := HK2.out; omega
                              case rel => exact ⟨(x5_2), (wrap64 (x23_2 + 1)), (by first | rfl | (simp; done) | (simp [*]; done)), H', ⟨by have := HJ1.out; have := HK2.out; omega⟩, ⟨by (with_reducible repeat (first | apply Kd.R_alloc | apply Kd.R_drewN | apply Kd.R_drew)); exact Kd.R_mono HO_4.out (fun _ hk => trivial)⟩, ⟨by (with_reducible repeat (first | apply Kd.R_alloc | apply Kd.R_drewN | apply Kd.R_drew)); exact Kd.R_mono HO_21.out (fun _ hk => trivial)⟩, ⟨by (with_reducible repeat (first | apply MapOwn.alloc | apply MapOwn.drewN | apply MapOwn.drew | apply MapOwn.setAny)); exact HM.out⟩, ⟨by repeat (first | (with_reducible first | exact HB.out | apply below_alloc | apply pw_below_drewN | apply below_drew1) | exact HB.out)⟩⟩
                            · rw [if_neg c21] at H
                              have c21b0 : ((rdOf ByteArray.empty t116 0).toList == (rdOf ByteArray.empty t109 x23_2).toList) = false := beq_eq_false_iff_ne.mpr c21
                              have c21b1 : ((rdOf ByteArray.empty t116 0).toList != (rdOf ByteArray.empty t109 x23_2).toList) = true := bne_iff_ne.mpr c21
                              simp only [Option.some.injEq, Prod.mk.injEq] at H
                              obtain ⟨rfl, rfl⟩ := H
                              have p112 : 0 ≤ (x23_2 : Int) := of_decide_eq_true (by first | (with_reducible assumption) | assumption)
                              have q112 : x23_2 < (t109.length : Int) := of_decide_eq_true (by first | (with_reducible assumption) | assumption)
                              obtain ⟨ad112, e112, hx112_0⟩ := Kd.at_string (Kd.R_reads' HO_21.out).2.2 x23_2 p112 q112
                              cases e112
                              replace p112 := eq_true p112
                              replace q112 := eq_true q112
                              go_wp2_with (first | (at_lookup; (try (refine gate_guard (by rfl) ?_; dsimp only)); refine wpList_lookup_map_bool (K := K47) (base := w.heap.size) z47 _ Tryd.underlying4 rfl _ _ 47 rfl Tryd.underlying47 _ ?hok rfl rfl (by (with_reducible repeat (first | apply MapOwn.alloc | apply MapOwn.drewN | apply MapOwn.drew | apply MapOwn.setAny)); exact HM.out) ?_; (case hok => show (ByteArray.size _) ≤ 9223372036854775807; first | assumption | exact of_decide_eq_true (by first | (with_reducible assumption) | assumption))) | (at_mapUpdate; (try (refine gate_guard (by rfl) ?_; dsimp only)); refine wpList_mapUpdate_map_bool (K := K47) (base := w.heap.size) z47 Tryd.underlying4 _ rfl _ _ _ 47 rfl Tryd.underlying47 _ _ ?hok rfl rfl rfl (by (with_reducible repeat (first | apply MapOwn.alloc | apply MapOwn.drewN | apply MapOwn.drew | apply MapOwn.setAny)); exact HM.out) (by first | assumption | exact of_decide_eq_true (by first | (with_reducible assumption) | assumption)) ?_; (case hok => show (ByteArray.size _) ≤ 9223372036854775807; first | assumption | exact of_decide_eq_true (by first | (with_reducible assumption) | assumption)); intro wM_ hm_ hg_; have nO0_ := Aside0.mk (Kd.R_mapped (by (with_reducible repeat (first | apply Kd.R_alloc | apply Kd.R_drewN | apply Kd.R_drew)); exact HO_4.out) (by (with_reducible repeat (first | apply MapOwn.alloc | apply MapOwn.drewN | apply MapOwn.drew | apply MapOwn.setAny)); exact HM.out : MapOwn K47 E47 _ w.heap.size _ _) hg_); have nO1_ := Aside0.mk (Kd.R_mapped (by (with_reducible repeat (first | apply Kd.R_alloc | apply Kd.R_drewN | apply Kd.R_drew)); exact HO_21.out) (by (with_reducible repeat (first | apply MapOwn.alloc | apply MapOwn.drewN | apply MapOwn.drew | apply MapOwn.setAny)); exact HM.out : MapOwn K47 E47 _ w.heap.size _ _) hg_); have nB_ := Aside0.mk (below_mapped (by repeat (first | (with_reducible first | exact HB.out | apply below_alloc | apply pw_below_drewN | apply below_drew1 | refine below_set ?_ (Aside0.out (by assumption))) | exact HB.out)) (by (with_reducible repeat (first | apply MapOwn.alloc | apply MapOwn.drewN | apply MapOwn.drew | apply MapOwn.setAny)); exact HM.out : MapOwn K47 E47 _ w.heap.size _ _) (Nat.le_refl _) hg_); clear HB HM HO_4 HO_21; have HM := Aside0.mk hm_; have HB := nB_; clear nB_ hm_ hg_; have HO_4 := nO0_; clear nO0_; have HO_21 := nO1_; clear nO1_) | ((with_reducible refine gate_callee (f := 21) rfl ?_); refine goesL_ (some 29) rfl rfl Tryd.func21 (by kernel_rfl) rfl #[.string (rdOf ByteArray.empty t109 x23_2)] rfl (by (try simp only [List.map_toArray, List.map_cons, List.map_nil]); first | done | rfl | (simp only [List.length_drop, List.length_take]; rfl)) ?_; (with_reducible refine (path_Kind.calls k2 (rdOf ByteArray.empty t109 x23_2) t113 _ A15.out).mono ?_); rintro e w' ⟨rfl, ⟨nd, rfl⟩⟩; refine ⟨_, rfl, ?_⟩) | ((with_reducible refine gate_callee (f := 15) rfl ?_); refine goesL_ (some 37) rfl rfl Tryd.func15 (by kernel_rfl) rfl #[.string (rdOf ByteArray.empty t109 x23_2)] rfl (by (try simp only [List.map_toArray, List.map_cons, List.map_nil]); first | done | rfl | (simp only [List.length_drop, List.length_take]; rfl)) ?_; (with_reducible refine (ascii_Token.calls k2 (rdOf ByteArray.empty t109 x23_2) true _ A17.out).mono ?_); rintro e w' ⟨rfl, ⟨nd, rfl⟩⟩; refine ⟨_, rfl, ?_⟩) | (go_at_call 22; (with_reducible refine (ascii_Words.calls k2 (rdOf ByteArray.empty t109 x23_2) 37 t116 _ A19.out).mono ?_); rintro e w24 ⟨v117, rfl, ho0, hb⟩; (try (have nM_ := Aside0.mk (MapOwn.below (K := K47) (E := E47) (by (with_reducible repeat (first | apply MapOwn.alloc | apply MapOwn.drewN | apply MapOwn.drew | apply MapOwn.setAny)); exact HM.out) hb); clear HM; have HM := nM_; clear nM_)); have n0_ := Aside0.mk (Kd.R_elder' (by (with_reducible repeat (first | apply Kd.R_alloc | apply Kd.R_drewN | apply Kd.R_drew)); exact HO_4.out) (Kd.R_base ho0) hb); have n1_ := Aside0.mk (Kd.R_elder' (by (with_reducible repeat (first | apply Kd.R_alloc | apply Kd.R_drewN | apply Kd.R_drew)); exact HO_21.out) (Kd.R_base ho0) hb); have n2_ := Aside0.mk (Kd.R_lower (Kd.R_new' (Kd.R_new' ho0 (Kd.R_lt (by (with_reducible repeat (first | apply Kd.R_alloc | apply Kd.R_drewN | apply Kd.R_drew)); exact HO_4.out))) (Kd.R_lt (by (with_reducible repeat (first | apply Kd.R_alloc | apply Kd.R_drewN | apply Kd.R_drew)); exact HO_21.out))) (below_size (by repeat (first | (with_reducible first | exact HB.out | apply below_alloc | apply pw_below_drewN | apply below_drew1) | exact HB.out)))); have n3_ := Aside0.mk (below_step (by repeat (first | (with_reducible first | exact HB.out | apply below_alloc | apply pw_below_drewN | apply below_drew1) | exact HB.out)) hb); clear HO_4; clear HO_21; clear HB; have HO_4 := n0_; have HO_21 := n1_; have HO118 := n2_; have HB := n3_; clear n0_ n1_ n2_ n3_; (try clear hb); (try clear hb2); (try clear hk); (try clear hi); (try clear ho0); obtain ⟨Ao25, co25, eo25⟩ := Kd.R_slice HO118.out; subst eo25; have p119 : 0 ≤ (0 : Int) := (by omega); have q119 : 0 < (t116.length : Int) := of_decide_eq_true (by first | (with_reducible assumption) | assumption); obtain ⟨ad119, e119, hx119_0⟩ := Kd.at_string (Kd.R_reads' HO118.out).2.2 0 p119 q119; cases e119; have qi119 : (0 < t116.length) = True := eq_true (by omega); (try rw [show ((0 : Int)).toNat = 0 from rfl] at hx119_0); (try rw [Addr.add_zero'] at hx119_0); replace p119 := eq_true p119; replace q119 := eq_true q119))
                              go_ret2
                              exact ⟨_, by first | rfl | (simp [errW_none, errW_some] <;> rfl) | (simp [*, errW_none, errW_some] <;> rfl), by first | exact Kd.R_nil _ _ _ _ _ | exact Kd.N_nil _ _ _ _ _ | exact Kd.V_nil _ _ _ _ _ | exact Kd.Q_nil _ _ _ _ _ | exact Kd.S_nil _ _ _ _ _, by repeat (first | (with_reducible first | exact HB.out | apply below_alloc | apply pw_below_drewN | apply below_drew1) | exact HB.out)⟩
                          · rw [if_neg c20] at H
                            exact absurd H (by simp)
                        · replace c18 := Bool.eq_false_iff.mpr c18
                          subst c18
                          have H1 : (some (([] : List ByteArray), false)) = some (r1, r2) := by rw [if_neg (show ¬ (false = true) by decide)] at H; exact H
                          clear H
                          have H := H1
                          clear H1
                          simp only [Option.some.injEq, Prod.mk.injEq] at H
                          obtain ⟨rfl, rfl⟩ := H
                          have p112 : 0 ≤ (x23_2 : Int) := of_decide_eq_true (by first | (with_reducible assumption) | assumption)
                          have q112 : x23_2 < (t109.length : Int) := of_decide_eq_true (by first | (with_reducible assumption) | assumption)
                          obtain ⟨ad112, e112, hx112_0⟩ := Kd.at_string (Kd.R_reads' HO_21.out).2.2 x23_2 p112 q112
                          cases e112
                          replace p112 := eq_true p112
                          replace q112 := eq_true q112
                          go_wp2_with (first | (at_lookup; (try (refine gate_guard (by rfl) ?_; dsimp only)); refine wpList_lookup_map_bool (K := K47) (base := w.heap.size) z47 _ Tryd.underlying4 rfl _ _ 47 rfl Tryd.underlying47 _ ?hok rfl rfl (by (with_reducible repeat (first | apply MapOwn.alloc | apply MapOwn.drewN | apply MapOwn.drew | apply MapOwn.setAny)); exact HM.out) ?_; (case hok => show (ByteArray.size _) ≤ 9223372036854775807; first | assumption | exact of_decide_eq_true (by first | (with_reducible assumption) | assumption))) | (at_mapUpdate; (try (refine gate_guard (by rfl) ?_; dsimp only)); refine wpList_mapUpdate_map_bool (K := K47) (base := w.heap.size) z47 Tryd.underlying4 _ rfl _ _ _ 47 rfl Tryd.underlying47 _ _ ?hok rfl rfl rfl (by (with_reducible repeat (first | apply MapOwn.alloc | apply MapOwn.drewN | apply MapOwn.drew | apply MapOwn.setAny)); exact HM.out) (by first | assumption | exact of_decide_eq_true (by first | (with_reducible assumption) | assumption)) ?_; (case hok => show (ByteArray.size _) ≤ 9223372036854775807; first | assumption | exact of_decide_eq_true (by first | (with_reducible assumption) | assumption)); intro wM_ hm_ hg_; have nO0_ := Aside0.mk (Kd.R_mapped (by (with_reducible repeat (first | apply Kd.R_alloc | apply Kd.R_drewN | apply Kd.R_drew)); exact HO_4.out) (by (with_reducible repeat (first | apply MapOwn.alloc | apply MapOwn.drewN | apply MapOwn.drew | apply MapOwn.setAny)); exact HM.out : MapOwn K47 E47 _ w.heap.size _ _) hg_); have nO1_ := Aside0.mk (Kd.R_mapped (by (with_reducible repeat (first | apply Kd.R_alloc | apply Kd.R_drewN | apply Kd.R_drew)); exact HO_21.out) (by (with_reducible repeat (first | apply MapOwn.alloc | apply MapOwn.drewN | apply MapOwn.drew | apply MapOwn.setAny)); exact HM.out : MapOwn K47 E47 _ w.heap.size _ _) hg_); have nB_ := Aside0.mk (below_mapped (by repeat (first | (with_reducible first | exact HB.out | apply below_alloc | apply pw_below_drewN | apply below_drew1 | refine below_set ?_ (Aside0.out (by assumption))) | exact HB.out)) (by (with_reducible repeat (first | apply MapOwn.alloc | apply MapOwn.drewN | apply MapOwn.drew | apply MapOwn.setAny)); exact HM.out : MapOwn K47 E47 _ w.heap.size _ _) (Nat.le_refl _) hg_); clear HB HM HO_4 HO_21; have HM := Aside0.mk hm_; have HB := nB_; clear nB_ hm_ hg_; have HO_4 := nO0_; clear nO0_; have HO_21 := nO1_; clear nO1_) | ((with_reducible refine gate_callee (f := 21) rfl ?_); refine goesL_ (some 29) rfl rfl Tryd.func21 (by kernel_rfl) rfl #[.string (rdOf ByteArray.empty t109 x23_2)] rfl (by (try simp only [List.map_toArray, List.map_cons, List.map_nil]); first | done | rfl | (simp only [List.length_drop, List.length_take]; rfl)) ?_; (with_reducible refine (path_Kind.calls k2 (rdOf ByteArray.empty t109 x23_2) t113 _ A15.out).mono ?_); rintro e w' ⟨rfl, ⟨nd, rfl⟩⟩; refine ⟨_, rfl, ?_⟩) | ((with_reducible refine gate_callee (f := 15) rfl ?_); refine goesL_ (some 37) rfl rfl Tryd.func15 (by kernel_rfl) rfl #[.string (rdOf ByteArray.empty t109 x23_2)] rfl (by (try simp only [List.map_toArray, List.map_cons, List.map_nil]); first | done | rfl | (simp only [List.length_drop, List.length_take]; rfl)) ?_; (with_reducible refine (ascii_Token.calls k2 (rdOf ByteArray.empty t109 x23_2) false _ A17.out).mono ?_); rintro e w' ⟨rfl, ⟨nd, rfl⟩⟩; refine ⟨_, rfl, ?_⟩))
                          go_ret2
                          exact ⟨_, by first | rfl | (simp [errW_none, errW_some] <;> rfl) | (simp [*, errW_none, errW_some] <;> rfl), by first | exact Kd.R_nil _ _ _ _ _ | exact Kd.N_nil _ _ _ _ _ | exact Kd.V_nil _ _ _ _ _ | exact Kd.Q_nil _ _ _ _ _ | exact Kd.S_nil _ _ _ _ _, by repeat (first | (with_reducible first | exact HB.out | apply below_alloc | apply pw_below_drewN | apply below_drew1) | exact HB.out)⟩
                      · rw [if_neg c16] at H
                        have c16b0 : (t113 == 0) = false := beq_eq_false_iff_ne.mpr c16
                        have c16b1 : (t113 != 0) = true := bne_iff_ne.mpr c16
                        by_cases c26 : t113 = 2
                        · rw [if_pos c26] at H
                          have c26b0 : (t113 == 2) = true := beq_iff_eq.mpr c26
                          have c26b1 : (t113 != 2) = false := bne_eq_false_iff_eq.mpr c26
                          clear c26
                          by_cases c27 : x23_2 = (wrap64 ((t109.length : Int) - 1))
                          · rw [if_pos c27] at H
                            have c27b0 : (x23_2 == (wrap64 ((t109.length : Int) - 1))) = true := beq_iff_eq.mpr c27
                            have c27b1 : (x23_2 != (wrap64 ((t109.length : Int) - 1))) = false := bne_eq_false_iff_eq.mpr c27
                            clear c27
                            by_cases c28 : 1 ≤ ((rdOf ByteArray.empty t109 x23_2).size : Int)
                            · rw [if_pos c28] at H
                              have c28b0 := eq_true c28
                              have c28b1 : decide (1 ≤ ((rdOf ByteArray.empty t109 x23_2).size : Int)) = true := decide_eq_true c28
                              clear c28
                              replace H := Option.bind_eq_some_iff.mp H
                              obtain ⟨t120, A290, H⟩ := H
                              replace H : (if t120 = true then (if ((rdOf ByteArray.empty t109 x23_2).extract 1 (rdOf ByteArray.empty t109 x23_2).size).size ≤ 9223372036854775807 then (if mapGet false x5_2 ((rdOf ByteArray.empty t109 x23_2).extract 1 (rdOf ByteArray.empty t109 x23_2).size) = true then (some (([] : List ByteArray), false)) else (if x5_2.length < 9223372036854775807 then (path_Pattern.l0 k2 t109 (((rdOf ByteArray.empty t109 x23_2).extract 1 (rdOf ByteArray.empty t109 x23_2).size, true) :: x5_2) t109 (t109.length : Int) (wrap64 (x23_2 + 1))) else (none))) else (none)) else (some (([] : List ByteArray), false))) = some (r1, r2) := H
                              have A29 := Aside0.mk A290
                              clear A290
                              by_cases c30 : t120 = true
                              · subst c30
                                have H1 : (if ((rdOf ByteArray.empty t109 x23_2).extract 1 (rdOf ByteArray.empty t109 x23_2).size).size ≤ 9223372036854775807 then (if mapGet false x5_2 ((rdOf ByteArray.empty t109 x23_2).extract 1 (rdOf ByteArray.empty t109 x23_2).size) = true then (some (([] : List ByteArray), false)) else (if x5_2.length < 9223372036854775807 then (path_Pattern.l0 k2 t109 (((rdOf ByteArray.empty t109 x23_2).extract 1 (rdOf ByteArray.empty t109 x23_2).size, true) :: x5_2) t109 (t109.length : Int) (wrap64 (x23_2 + 1))) else (none))) else (none)) = some (r1, r2) := by rw [if_pos rfl] at H; exact H
                                clear H
                                have H := H1
                                clear H1
                                have c31b0 := eq_true (of_decide_eq_true (by first | (with_reducible assumption) | assumption) : 1 ≤ ((rdOf ByteArray.empty t109 x23_2).size : Int))
                                by_cases c32 : ((rdOf ByteArray.empty t109 x23_2).extract 1 (rdOf ByteArray.empty t109 x23_2).size).size ≤ 9223372036854775807
                                · rw [if_pos c32] at H
                                  have c32b0 := eq_true c32
                                  have c32b1 : decide (((rdOf ByteArray.empty t109 x23_2).extract 1 (rdOf ByteArray.empty t109 x23_2).size).size ≤ 9223372036854775807) = true := decide_eq_true c32
                                  try have c32b2 : (9223372036854775807 < ((rdOf ByteArray.empty t109 x23_2).extract 1 (rdOf ByteArray.empty t109 x23_2).size).size) = False := eq_false (Nat.not_lt.2 c32)
                                  clear c32
                                  by_cases c33 : mapGet false x5_2 ((rdOf ByteArray.empty t109 x23_2).extract 1 (rdOf ByteArray.empty t109 x23_2).size) = true
                                  · rw [if_pos c33] at H
                                    have c33b0 : mapGet false x5_2 ((rdOf ByteArray.empty t109 x23_2).extract 1 (rdOf ByteArray.empty t109 x23_2).size) = true := c33
                                    clear c33
                                    simp only [Option.some.injEq, Prod.mk.injEq] at H
                                    obtain ⟨rfl, rfl⟩ := H
                                    have p112 : 0 ≤ (x23_2 : Int) := of_decide_eq_true (by first | (with_reducible assumption) | assumption)
                                    have q112 : x23_2 < (t109.length : Int) := of_decide_eq_true (by first | (with_reducible assumption) | assumption)
                                    obtain ⟨ad112, e112, hx112_0⟩ := Kd.at_string (Kd.R_reads' HO_21.out).2.2 x23_2 p112 q112
                                    cases e112
                                    replace p112 := eq_true p112
                                    replace q112 := eq_true q112
                                    go_wp2_with (first | (at_lookup; (try (refine gate_guard (by rfl) ?_; dsimp only)); refine wpList_lookup_map_bool (K := K47) (base := w.heap.size) z47 _ Tryd.underlying4 rfl _ _ 47 rfl Tryd.underlying47 _ ?hok rfl rfl (by (with_reducible repeat (first | apply MapOwn.alloc | apply MapOwn.drewN | apply MapOwn.drew | apply MapOwn.setAny)); exact HM.out) ?_; (case hok => show (ByteArray.size _) ≤ 9223372036854775807; first | assumption | exact of_decide_eq_true (by first | (with_reducible assumption) | assumption)); (try rw [c33b0])) | (at_mapUpdate; (try (refine gate_guard (by rfl) ?_; dsimp only)); refine wpList_mapUpdate_map_bool (K := K47) (base := w.heap.size) z47 Tryd.underlying4 _ rfl _ _ _ 47 rfl Tryd.underlying47 _ _ ?hok rfl rfl rfl (by (with_reducible repeat (first | apply MapOwn.alloc | apply MapOwn.drewN | apply MapOwn.drew | apply MapOwn.setAny)); exact HM.out) (by first | assumption | exact of_decide_eq_true (by first | (with_reducible assumption) | assumption)) ?_; (case hok => show (ByteArray.size _) ≤ 9223372036854775807; first | assumption | exact of_decide_eq_true (by first | (with_reducible assumption) | assumption)); intro wM_ hm_ hg_; have nO0_ := Aside0.mk (Kd.R_mapped (by (with_reducible repeat (first | apply Kd.R_alloc | apply Kd.R_drewN | apply Kd.R_drew)); exact HO_4.out) (by (with_reducible repeat (first | apply MapOwn.alloc | apply MapOwn.drewN | apply MapOwn.drew | apply MapOwn.setAny)); exact HM.out : MapOwn K47 E47 _ w.heap.size _ _) hg_); have nO1_ := Aside0.mk (Kd.R_mapped (by (with_reducible repeat (first | apply Kd.R_alloc | apply Kd.R_drewN | apply Kd.R_drew)); exact HO_21.out) (by (with_reducible repeat (first | apply MapOwn.alloc | apply MapOwn.drewN | apply MapOwn.drew | apply MapOwn.setAny)); exact HM.out : MapOwn K47 E47 _ w.heap.size _ _) hg_); have nB_ := Aside0.mk (below_mapped (by repeat (first | (with_reducible first | exact HB.out | apply below_alloc | apply pw_below_drewN | apply below_drew1 | refine below_set ?_ (Aside0.out (by assumption))) | exact HB.out)) (by (with_reducible repeat (first | apply MapOwn.alloc | apply MapOwn.drewN | apply MapOwn.drew | apply MapOwn.setAny)); exact HM.out : MapOwn K47 E47 _ w.heap.size _ _) (Nat.le_refl _) hg_); clear HB HM HO_4 HO_21; have HM := Aside0.mk hm_; have HB := nB_; clear nB_ hm_ hg_; have HO_4 := nO0_; clear nO0_; have HO_21 := nO1_; clear nO1_) | ((with_reducible refine gate_callee (f := 21) rfl ?_); refine goesL_ (some 29) rfl rfl Tryd.func21 (by kernel_rfl) rfl #[.string (rdOf ByteArray.empty t109 x23_2)] rfl (by (try simp only [List.map_toArray, List.map_cons, List.map_nil]); first | done | rfl | (simp only [List.length_drop, List.length_take]; rfl)) ?_; (with_reducible refine (path_Kind.calls k2 (rdOf ByteArray.empty t109 x23_2) t113 _ A15.out).mono ?_); rintro e w' ⟨rfl, ⟨nd, rfl⟩⟩; refine ⟨_, rfl, ?_⟩) | ((with_reducible refine gate_callee (f := 15) rfl ?_); refine goesL_ (some 54) rfl rfl Tryd.func15 (by kernel_rfl) rfl #[.string ((rdOf ByteArray.empty t109 x23_2).extract 1 (rdOf ByteArray.empty t109 x23_2).size)] rfl (by (try simp only [List.map_toArray, List.map_cons, List.map_nil]); first | done | rfl | (simp only [List.length_drop, List.length_take]; rfl)) ?_; (with_reducible refine (ascii_Token.calls k2 ((rdOf ByteArray.empty t109 x23_2).extract 1 (rdOf ByteArray.empty t109 x23_2).size) true _ A29.out).mono ?_); rintro e w' ⟨rfl, ⟨nd, rfl⟩⟩; refine ⟨_, rfl, ?_⟩))
                                    go_ret2
                                    exact ⟨_, by first | rfl | (simp [errW_none, errW_some] <;> rfl) | (simp [*, errW_none, errW_some] <;> rfl), by first | exact Kd.R_nil _ _ _ _ _ | exact Kd.N_nil _ _ _ _ _ | exact Kd.V_nil _ _ _ _ _ | exact Kd.Q_nil _ _ _ _ _ | exact Kd.S_nil _ _ _ _ _, by repeat (first | (with_reducible first | exact HB.out | apply below_alloc | apply pw_below_drewN | apply below_drew1) | exact HB.out)⟩
                                  · rw [if_neg c33] at H
                                    have c33b0 : mapGet false x5_2 ((rdOf ByteArray.empty t109 x23_2).extract 1 (rdOf ByteArray.empty t109 x23_2).size) = false := by simpa using c33
                                    clear c33
                                    have c34b0 := eq_true (of_decide_eq_true (by first | (with_reducible assumption) | assumption) : 1 ≤ ((rdOf ByteArray.empty t109 x23_2).size : Int))
                                    by_cases c35 : x5_2.length < 9223372036854775807
                                    · rw [if_pos c35] at H
                                      have c35b0 := eq_true c35
                                      have c35b1 : decide (x5_2.length < 9223372036854775807) = true := decide_eq_true c35
                                      clear c35
                                      have H' := Aside0.mk H
                                      clear H
                                      have p112 : 0 ≤ (x23_2 : Int) := of_decide_eq_true (by first | (with_reducible assumption) | assumption)
                                      have q112 : x23_2 < (t109.length : Int) := of_decide_eq_true (by first | (with_reducible assumption) | assumption)
                                      obtain ⟨ad112, e112, hx112_0⟩ := Kd.at_string (Kd.R_reads' HO_21.out).2.2 x23_2 p112 q112
                                      cases e112
                                      replace p112 := eq_true p112
                                      replace q112 := eq_true q112
                                      go_wp2_with (first | (at_lookup; (try (refine gate_guard (by rfl) ?_; dsimp only)); refine wpList_lookup_map_bool (K := K47) (base := w.heap.size) z47 _ Tryd.underlying4 rfl _ _ 47 rfl Tryd.underlying47 _ ?hok rfl rfl (by (with_reducible repeat (first | apply MapOwn.alloc | apply MapOwn.drewN | apply MapOwn.drew | apply MapOwn.setAny)); exact HM.out) ?_; (case hok => show (ByteArray.size _) ≤ 9223372036854775807; first | assumption | exact of_decide_eq_true (by first | (with_reducible assumption) | assumption)); (try rw [c33b0])) | (at_mapUpdate; (try (refine gate_guard (by rfl) ?_; dsimp only)); refine wpList_mapUpdate_map_bool (K := K47) (base := w.heap.size) z47 Tryd.underlying4 _ rfl _ _ _ 47 rfl Tryd.underlying47 _ _ ?hok rfl rfl rfl (by (with_reducible repeat (first | apply MapOwn.alloc | apply MapOwn.drewN | apply MapOwn.drew | apply MapOwn.setAny)); exact HM.out) (by first | assumption | exact of_decide_eq_true (by first | (with_reducible assumption) | assumption)) ?_; (case hok => show (ByteArray.size _) ≤ 9223372036854775807; first | assumption | exact of_decide_eq_true (by first | (with_reducible assumption) | assumption)); intro wM_ hm_ hg_; have nO0_ := Aside0.mk (Kd.R_mapped (by (with_reducible repeat (first | apply Kd.R_alloc | apply Kd.R_drewN | apply Kd.R_drew)); exact HO_4.out) (by (with_reducible repeat (first | apply MapOwn.alloc | apply MapOwn.drewN | apply MapOwn.drew | apply MapOwn.setAny)); exact HM.out : MapOwn K47 E47 _ w.heap.size _ _) hg_); have nO1_ := Aside0.mk (Kd.R_mapped (by (with_reducible repeat (first | apply Kd.R_alloc | apply Kd.R_drewN | apply Kd.R_drew)); exact HO_21.out) (by (with_reducible repeat (first | apply MapOwn.alloc | apply MapOwn.drewN | apply MapOwn.drew | apply MapOwn.setAny)); exact HM.out : MapOwn K47 E47 _ w.heap.size _ _) hg_); have nB_ := Aside0.mk (below_mapped (by repeat (first | (with_reducible first | exact HB.out | apply below_alloc | apply pw_below_drewN | apply below_drew1 | refine below_set ?_ (Aside0.out (by assumption))) | exact HB.out)) (by (with_reducible repeat (first | apply MapOwn.alloc | apply MapOwn.drewN | apply MapOwn.drew | apply MapOwn.setAny)); exact HM.out : MapOwn K47 E47 _ w.heap.size _ _) (Nat.le_refl _) hg_); clear HB HM HO_4 HO_21; have HM := Aside0.mk hm_; have HB := nB_; clear nB_ hm_ hg_; have HO_4 := nO0_; clear nO0_; have HO_21 := nO1_; clear nO1_) | ((with_reducible refine gate_callee (f := 21) rfl ?_); refine goesL_ (some 29) rfl rfl Tryd.func21 (by kernel_rfl) rfl #[.string (rdOf ByteArray.empty t109 x23_2)] rfl (by (try simp only [List.map_toArray, List.map_cons, List.map_nil]); first | done | rfl | (simp only [List.length_drop, List.length_take]; rfl)) ?_; (with_reducible refine (path_Kind.calls k2 (rdOf ByteArray.empty t109 x23_2) t113 _ A15.out).mono ?_); rintro e w' ⟨rfl, ⟨nd, rfl⟩⟩; refine ⟨_, rfl, ?_⟩) | ((with_reducible refine gate_callee (f := 15) rfl ?_); refine goesL_ (some 54) rfl rfl Tryd.func15 (by kernel_rfl) rfl #[.string ((rdOf ByteArray.empty t109 x23_2).extract 1 (rdOf ByteArray.empty t109 x23_2).size)] rfl (by (try simp only [List.map_toArray, List.map_cons, List.map_nil]); first | done | rfl | (simp only [List.length_drop, List.length_take]; rfl)) ?_; (with_reducible refine (ascii_Token.calls k2 ((rdOf ByteArray.empty t109 x23_2).extract 1 (rdOf ByteArray.empty t109 x23_2).size) true _ A29.out).mono ?_); rintro e w' ⟨rfl, ⟨nd, rfl⟩⟩; refine ⟨_, rfl, ?_⟩))
                                      go_roundg k2
                                      case measure => have := HJ1.out; have := HK2.out; omega
                                      case rel => exact ⟨(((rdOf ByteArray.empty t109 x23_2).extract 1 (rdOf ByteArray.empty t109 x23_2).size, true) :: x5_2), (wrap64 (x23_2 + 1)), (by first | rfl | (simp; done) | (simp [*]; done)), H', ⟨by have := HJ1.out; have := HK2.out; omega⟩, ⟨by (with_reducible repeat (first | apply Kd.R_alloc | apply Kd.R_drewN | apply Kd.R_drew)); exact HO_4.out⟩, ⟨by (with_reducible repeat (first | apply Kd.R_alloc | apply Kd.R_drewN | apply Kd.R_drew)); exact HO_21.out⟩, ⟨by (with_reducible repeat (first | apply MapOwn.alloc | apply MapOwn.drewN | apply MapOwn.drew | apply MapOwn.setAny)); exact HM.out⟩, ⟨by repeat (first | (with_reducible first | exact HB.out | apply below_alloc | apply pw_below_drewN | apply below_drew1) | exact HB.out)⟩⟩
                                    · rw [if_neg c35] at H
                                      exact absurd H (by simp)
                                · rw [if_neg c32] at H
                                  exact absurd H (by simp)
                              · replace c30 := Bool.eq_false_iff.mpr c30
                                subst c30
                                have H1 : (some (([] : List ByteArray), false)) = some (r1, r2) := by rw [if_neg (show ¬ (false = true) by decide)] at H; exact H
                                clear H
                                have H := H1
                                clear H1
                                simp only [Option.some.injEq, Prod.mk.injEq] at H
                                obtain ⟨rfl, rfl⟩ := H
                                have p112 : 0 ≤ (x23_2 : Int) := of_decide_eq_true (by first | (with_reducible assumption) | assumption)
                                have q112 : x23_2 < (t109.length : Int) := of_decide_eq_true (by first | (with_reducible assumption) | assumption)
                                obtain ⟨ad112, e112, hx112_0⟩ := Kd.at_string (Kd.R_reads' HO_21.out).2.2 x23_2 p112 q112
                                cases e112
                                replace p112 := eq_true p112
                                replace q112 := eq_true q112
                                go_wp2_with (first | (at_lookup; (try (refine gate_guard (by rfl) ?_; dsimp only)); refine wpList_lookup_map_bool (K := K47) (base := w.heap.size) z47 _ Tryd.underlying4 rfl _ _ 47 rfl Tryd.underlying47 _ ?hok rfl rfl (by (with_reducible repeat (first | apply MapOwn.alloc | apply MapOwn.drewN | apply MapOwn.drew | apply MapOwn.setAny)); exact HM.out) ?_; (case hok => show (ByteArray.size _) ≤ 9223372036854775807; first | assumption | exact of_decide_eq_true (by first | (with_reducible assumption) | assumption))) | (at_mapUpdate; (try (refine gate_guard (by rfl) ?_; dsimp only)); refine wpList_mapUpdate_map_bool (K := K47) (base := w.heap.size) z47 Tryd.underlying4 _ rfl _ _ _ 47 rfl Tryd.underlying47 _ _ ?hok rfl rfl rfl (by (with_reducible repeat (first | apply MapOwn.alloc | apply MapOwn.drewN | apply MapOwn.drew | apply MapOwn.setAny)); exact HM.out) (by first | assumption | exact of_decide_eq_true (by first | (with_reducible assumption) | assumption)) ?_; (case hok => show (ByteArray.size _) ≤ 9223372036854775807; first | assumption | exact of_decide_eq_true (by first | (with_reducible assumption) | assumption)); intro wM_ hm_ hg_; have nO0_ := Aside0.mk (Kd.R_mapped (by (with_reducible repeat (first | apply Kd.R_alloc | apply Kd.R_drewN | apply Kd.R_drew)); exact HO_4.out) (by (with_reducible repeat (first | apply MapOwn.alloc | apply MapOwn.drewN | apply MapOwn.drew | apply MapOwn.setAny)); exact HM.out : MapOwn K47 E47 _ w.heap.size _ _) hg_); have nO1_ := Aside0.mk (Kd.R_mapped (by (with_reducible repeat (first | apply Kd.R_alloc | apply Kd.R_drewN | apply Kd.R_drew)); exact HO_21.out) (by (with_reducible repeat (first | apply MapOwn.alloc | apply MapOwn.drewN | apply MapOwn.drew | apply MapOwn.setAny)); exact HM.out : MapOwn K47 E47 _ w.heap.size _ _) hg_); have nB_ := Aside0.mk (below_mapped (by repeat (first | (with_reducible first | exact HB.out | apply below_alloc | apply pw_below_drewN | apply below_drew1 | refine below_set ?_ (Aside0.out (by assumption))) | exact HB.out)) (by (with_reducible repeat (first | apply MapOwn.alloc | apply MapOwn.drewN | apply MapOwn.drew | apply MapOwn.setAny)); exact HM.out : MapOwn K47 E47 _ w.heap.size _ _) (Nat.le_refl _) hg_); clear HB HM HO_4 HO_21; have HM := Aside0.mk hm_; have HB := nB_; clear nB_ hm_ hg_; have HO_4 := nO0_; clear nO0_; have HO_21 := nO1_; clear nO1_) | ((with_reducible refine gate_callee (f := 21) rfl ?_); refine goesL_ (some 29) rfl rfl Tryd.func21 (by kernel_rfl) rfl #[.string (rdOf ByteArray.empty t109 x23_2)] rfl (by (try simp only [List.map_toArray, List.map_cons, List.map_nil]); first | done | rfl | (simp only [List.length_drop, List.length_take]; rfl)) ?_; (with_reducible refine (path_Kind.calls k2 (rdOf ByteArray.empty t109 x23_2) t113 _ A15.out).mono ?_); rintro e w' ⟨rfl, ⟨nd, rfl⟩⟩; refine ⟨_, rfl, ?_⟩) | ((with_reducible refine gate_callee (f := 15) rfl ?_); refine goesL_ (some 54) rfl rfl Tryd.func15 (by kernel_rfl) rfl #[.string ((rdOf ByteArray.empty t109 x23_2).extract 1 (rdOf ByteArray.empty t109 x23_2).size)] rfl (by (try simp only [List.map_toArray, List.map_cons, List.map_nil]); first | done | rfl | (simp only [List.length_drop, List.length_take]; rfl)) ?_; (with_reducible refine (ascii_Token.calls k2 ((rdOf ByteArray.empty t109 x23_2).extract 1 (rdOf ByteArray.empty t109 x23_2).size) false _ A29.out).mono ?_); rintro e w' ⟨rfl, ⟨nd, rfl⟩⟩; refine ⟨_, rfl, ?_⟩))
                                go_ret2
                                exact ⟨_, by first | rfl | (simp [errW_none, errW_some] <;> rfl) | (simp [*, errW_none, errW_some] <;> rfl), by first | exact Kd.R_nil _ _ _ _ _ | exact Kd.N_nil _ _ _ _ _ | exact Kd.V_nil _ _ _ _ _ | exact Kd.Q_nil _ _ _ _ _ | exact Kd.S_nil _ _ _ _ _, by repeat (first | (with_reducible first | exact HB.out | apply below_alloc | apply pw_below_drewN | apply below_drew1) | exact HB.out)⟩
                            · rw [if_neg c28] at H
                              exact absurd H (by simp)
                          · rw [if_neg c27] at H
                            have c27b0 : (x23_2 == (wrap64 ((t109.length : Int) - 1))) = false := beq_eq_false_iff_ne.mpr c27
                            have c27b1 : (x23_2 != (wrap64 ((t109.length : Int) - 1))) = true := bne_iff_ne.mpr c27
                            simp only [Option.some.injEq, Prod.mk.injEq] at H
                            obtain ⟨rfl, rfl⟩ := H
                            have p112 : 0 ≤ (x23_2 : Int) := of_decide_eq_true (by first | (with_reducible assumption) | assumption)
                            have q112 : x23_2 < (t109.length : Int) := of_decide_eq_true (by first | (with_reducible assumption) | assumption)
                            obtain ⟨ad112, e112, hx112_0⟩ := Kd.at_string (Kd.R_reads' HO_21.out).2.2 x23_2 p112 q112
                            cases e112
                            replace p112 := eq_true p112
                            replace q112 := eq_true q112
                            go_wp2_with (first | (at_lookup; (try (refine gate_guard (by rfl) ?_; dsimp only)); refine wpList_lookup_map_bool (K := K47) (base := w.heap.size) z47 _ Tryd.underlying4 rfl _ _ 47 rfl Tryd.underlying47 _ ?hok rfl rfl (by (with_reducible repeat (first | apply MapOwn.alloc | apply MapOwn.drewN | apply MapOwn.drew | apply MapOwn.setAny)); exact HM.out) ?_; (case hok => show (ByteArray.size _) ≤ 9223372036854775807; first | assumption | exact of_decide_eq_true (by first | (with_reducible assumption) | assumption))) | (at_mapUpdate; (try (refine gate_guard (by rfl) ?_; dsimp only)); refine wpList_mapUpdate_map_bool (K := K47) (base := w.heap.size) z47 Tryd.underlying4 _ rfl _ _ _ 47 rfl Tryd.underlying47 _ _ ?hok rfl rfl rfl (by (with_reducible repeat (first | apply MapOwn.alloc | apply MapOwn.drewN | apply MapOwn.drew | apply MapOwn.setAny)); exact HM.out) (by first | assumption | exact of_decide_eq_true (by first | (with_reducible assumption) | assumption)) ?_; (case hok => show (ByteArray.size _) ≤ 9223372036854775807; first | assumption | exact of_decide_eq_true (by first | (with_reducible assumption) | assumption)); intro wM_ hm_ hg_; have nO0_ := Aside0.mk (Kd.R_mapped (by (with_reducible repeat (first | apply Kd.R_alloc | apply Kd.R_drewN | apply Kd.R_drew)); exact HO_4.out) (by (with_reducible repeat (first | apply MapOwn.alloc | apply MapOwn.drewN | apply MapOwn.drew | apply MapOwn.setAny)); exact HM.out : MapOwn K47 E47 _ w.heap.size _ _) hg_); have nO1_ := Aside0.mk (Kd.R_mapped (by (with_reducible repeat (first | apply Kd.R_alloc | apply Kd.R_drewN | apply Kd.R_drew)); exact HO_21.out) (by (with_reducible repeat (first | apply MapOwn.alloc | apply MapOwn.drewN | apply MapOwn.drew | apply MapOwn.setAny)); exact HM.out : MapOwn K47 E47 _ w.heap.size _ _) hg_); have nB_ := Aside0.mk (below_mapped (by repeat (first | (with_reducible first | exact HB.out | apply below_alloc | apply pw_below_drewN | apply below_drew1 | refine below_set ?_ (Aside0.out (by assumption))) | exact HB.out)) (by (with_reducible repeat (first | apply MapOwn.alloc | apply MapOwn.drewN | apply MapOwn.drew | apply MapOwn.setAny)); exact HM.out : MapOwn K47 E47 _ w.heap.size _ _) (Nat.le_refl _) hg_); clear HB HM HO_4 HO_21; have HM := Aside0.mk hm_; have HB := nB_; clear nB_ hm_ hg_; have HO_4 := nO0_; clear nO0_; have HO_21 := nO1_; clear nO1_) | ((with_reducible refine gate_callee (f := 21) rfl ?_); refine goesL_ (some 29) rfl rfl Tryd.func21 (by kernel_rfl) rfl #[.string (rdOf ByteArray.empty t109 x23_2)] rfl (by (try simp only [List.map_toArray, List.map_cons, List.map_nil]); first | done | rfl | (simp only [List.length_drop, List.length_take]; rfl)) ?_; (with_reducible refine (path_Kind.calls k2 (rdOf ByteArray.empty t109 x23_2) t113 _ A15.out).mono ?_); rintro e w' ⟨rfl, ⟨nd, rfl⟩⟩; refine ⟨_, rfl, ?_⟩))
                            go_ret2
                            exact ⟨_, by first | rfl | (simp [errW_none, errW_some] <;> rfl) | (simp [*, errW_none, errW_some] <;> rfl), by first | exact Kd.R_nil _ _ _ _ _ | exact Kd.N_nil _ _ _ _ _ | exact Kd.V_nil _ _ _ _ _ | exact Kd.Q_nil _ _ _ _ _ | exact Kd.S_nil _ _ _ _ _, by repeat (first | (with_reducible first | exact HB.out | apply below_alloc | apply pw_below_drewN | apply below_drew1) | exact HB.out)⟩
                        · rw [if_neg c26] at H
                          have c26b0 : (t113 == 2) = false := beq_eq_false_iff_ne.mpr c26
                          have c26b1 : (t113 != 2) = true := bne_iff_ne.mpr c26
                          by_cases c36 : t113 = 1
                          · rw [if_pos c36] at H
                            have c36b0 : (t113 == 1) = true := beq_iff_eq.mpr c36
                            have c36b1 : (t113 != 1) = false := bne_eq_false_iff_eq.mpr c36
                            clear c36
                            by_cases c37 : 1 ≤ ((rdOf ByteArray.empty t109 x23_2).size : Int)
                            · rw [if_pos c37] at H
                              have c37b0 := eq_true c37
                              have c37b1 : decide (1 ≤ ((rdOf ByteArray.empty t109 x23_2).size : Int)) = true := decide_eq_true c37
                              clear c37
                              replace H := Option.bind_eq_some_iff.mp H
                              obtain ⟨t114, A380, H⟩ := H
                              replace H : (if t114 = true then (if ((rdOf ByteArray.empty t109 x23_2).extract 1 (rdOf ByteArray.empty t109 x23_2).size).size ≤ 9223372036854775807 then (if mapGet false x5_2 ((rdOf ByteArray.empty t109 x23_2).extract 1 (rdOf ByteArray.empty t109 x23_2).size) = true then (some (([] : List ByteArray), false)) else (if x5_2.length < 9223372036854775807 then (path_Pattern.l0 k2 t109 (((rdOf ByteArray.empty t109 x23_2).extract 1 (rdOf ByteArray.empty t109 x23_2).size, true) :: x5_2) t109 (t109.length : Int) (wrap64 (x23_2 + 1))) else (none))) else (none)) else (some (([] : List ByteArray), false))) = some (r1, r2) := H
                              have A38 := Aside0.mk A380
                              clear A380
                              by_cases c39 : t114 = true
                              · subst c39
                                have H1 : (if ((rdOf ByteArray.empty t109 x23_2).extract 1 (rdOf ByteArray.empty t109 x23_2).size).size ≤ 9223372036854775807 then (if mapGet false x5_2 ((rdOf ByteArray.empty t109 x23_2).extract 1 (rdOf ByteArray.empty t109 x23_2).size) = true then (some (([] : List ByteArray), false)) else (if x5_2.length < 9223372036854775807 then (path_Pattern.l0 k2 t109 (((rdOf ByteArray.empty t109 x23_2).extract 1 (rdOf ByteArray.empty t109 x23_2).size, true) :: x5_2) t109 (t109.length : Int) (wrap64 (x23_2 + 1))) else (none))) else (none)) = some (r1, r2) := by rw [if_pos rfl] at H; exact H
                                clear H
                                have H := H1
                                clear H1
                                have c40b0 := eq_true (of_decide_eq_true (by first | (with_reducible assumption) | assumption) : 1 ≤ ((rdOf ByteArray.empty t109 x23_2).size : Int))
                                by_cases c41 : ((rdOf ByteArray.empty t109 x23_2).extract 1 (rdOf ByteArray.empty t109 x23_2).size).size ≤ 9223372036854775807
                                · rw [if_pos c41] at H
                                  have c41b0 := eq_true c41
                                  have c41b1 : decide (((rdOf ByteArray.empty t109 x23_2).extract 1 (rdOf ByteArray.empty t109 x23_2).size).size ≤ 9223372036854775807) = true := decide_eq_true c41
                                  try have c41b2 : (9223372036854775807 < ((rdOf ByteArray.empty t109 x23_2).extract 1 (rdOf ByteArray.empty t109 x23_2).size).size) = False := eq_false (Nat.not_lt.2 c41)
                                  clear c41
                                  by_cases c42 : mapGet false x5_2 ((rdOf ByteArray.empty t109 x23_2).extract 1 (rdOf ByteArray.empty t109 x23_2).size) = true
                                  · rw [if_pos c42] at H
                                    have c42b0 : mapGet false x5_2 ((rdOf ByteArray.empty t109 x23_2).extract 1 (rdOf ByteArray.empty t109 x23_2).size) = true := c42
                                    clear c42
                                    simp only [Option.some.injEq, Prod.mk.injEq] at H
                                    obtain ⟨rfl, rfl⟩ := H
                                    have p112 : 0 ≤ (x23_2 : Int) := of_decide_eq_true (by first | (with_reducible assumption) | assumption)
                                    have q112 : x23_2 < (t109.length : Int) := of_decide_eq_true (by first | (with_reducible assumption) | assumption)
                                    obtain ⟨ad112, e112, hx112_0⟩ := Kd.at_string (Kd.R_reads' HO_21.out).2.2 x23_2 p112 q112
                                    cases e112
                                    replace p112 := eq_true p112
                                    replace q112 := eq_true q112
                                    go_wp2_with (first | (at_lookup; (try (refine gate_guard (by rfl) ?_; dsimp only)); refine wpList_lookup_map_bool (K := K47) (base := w.heap.size) z47 _ Tryd.underlying4 rfl _ _ 47 rfl Tryd.underlying47 _ ?hok rfl rfl (by (with_reducible repeat (first | apply MapOwn.alloc | apply MapOwn.drewN | apply MapOwn.drew | apply MapOwn.setAny)); exact HM.out) ?_; (case hok => show (ByteArray.size _) ≤ 9223372036854775807; first | assumption | exact of_decide_eq_true (by first | (with_reducible assumption) | assumption)); (try rw [c42b0])) | (at_mapUpdate; (try (refine gate_guard (by rfl) ?_; dsimp only)); refine wpList_mapUpdate_map_bool (K := K47) (base := w.heap.size) z47 Tryd.underlying4 _ rfl _ _ _ 47 rfl Tryd.underlying47 _ _ ?hok rfl rfl rfl (by (with_reducible repeat (first | apply MapOwn.alloc | apply MapOwn.drewN | apply MapOwn.drew | apply MapOwn.setAny)); exact HM.out) (by first | assumption | exact of_decide_eq_true (by first | (with_reducible assumption) | assumption)) ?_; (case hok => show (ByteArray.size _) ≤ 9223372036854775807; first | assumption | exact of_decide_eq_true (by first | (with_reducible assumption) | assumption)); intro wM_ hm_ hg_; have nO0_ := Aside0.mk (Kd.R_mapped (by (with_reducible repeat (first | apply Kd.R_alloc | apply Kd.R_drewN | apply Kd.R_drew)); exact HO_4.out) (by (with_reducible repeat (first | apply MapOwn.alloc | apply MapOwn.drewN | apply MapOwn.drew | apply MapOwn.setAny)); exact HM.out : MapOwn K47 E47 _ w.heap.size _ _) hg_); have nO1_ := Aside0.mk (Kd.R_mapped (by (with_reducible repeat (first | apply Kd.R_alloc | apply Kd.R_drewN | apply Kd.R_drew)); exact HO_21.out) (by (with_reducible repeat (first | apply MapOwn.alloc | apply MapOwn.drewN | apply MapOwn.drew | apply MapOwn.setAny)); exact HM.out : MapOwn K47 E47 _ w.heap.size _ _) hg_); have nB_ := Aside0.mk (below_mapped (by repeat (first | (with_reducible first | exact HB.out | apply below_alloc | apply pw_below_drewN | apply below_drew1 | refine below_set ?_ (Aside0.out (by assumption))) | exact HB.out)) (by (with_reducible repeat (first | apply MapOwn.alloc | apply MapOwn.drewN | apply MapOwn.drew | apply MapOwn.setAny)); exact HM.out : MapOwn K47 E47 _ w.heap.size _ _) (Nat.le_refl _) hg_); clear HB HM HO_4 HO_21; have HM := Aside0.mk hm_; have HB := nB_; clear nB_ hm_ hg_; have HO_4 := nO0_; clear nO0_; have HO_21 := nO1_; clear nO1_) | ((with_reducible refine gate_callee (f := 21) rfl ?_); refine goesL_ (some 29) rfl rfl Tryd.func21 (by kernel_rfl) rfl #[.string (rdOf ByteArray.empty t109 x23_2)] rfl (by (try simp only [List.map_toArray, List.map_cons, List.map_nil]); first | done | rfl | (simp only [List.length_drop, List.length_take]; rfl)) ?_; (with_reducible refine (path_Kind.calls k2 (rdOf ByteArray.empty t109 x23_2) t113 _ A15.out).mono ?_); rintro e w' ⟨rfl, ⟨nd, rfl⟩⟩; refine ⟨_, rfl, ?_⟩) | ((with_reducible refine gate_callee (f := 15) rfl ?_); refine goesL_ (some 54) rfl rfl Tryd.func15 (by kernel_rfl) rfl #[.string ((rdOf ByteArray.empty t109 x23_2).extract 1 (rdOf ByteArray.empty t109 x23_2).size)] rfl (by (try simp only [List.map_toArray, List.map_cons, List.map_nil]); first | done | rfl | (simp only [List.length_drop, List.length_take]; rfl)) ?_; (with_reducible refine (ascii_Token.calls k2 ((rdOf ByteArray.empty t109 x23_2).extract 1 (rdOf ByteArray.empty t109 x23_2).size) true _ A38.out).mono ?_); rintro e w' ⟨rfl, ⟨nd, rfl⟩⟩; refine ⟨_, rfl, ?_⟩))
                                    go_ret2
                                    exact ⟨_, by first | rfl | (simp [errW_none, errW_some] <;> rfl) | (simp [*, errW_none, errW_some] <;> rfl), by first | exact Kd.R_nil _ _ _ _ _ | exact Kd.N_nil _ _ _ _ _ | exact Kd.V_nil _ _ _ _ _ | exact Kd.Q_nil _ _ _ _ _ | exact Kd.S_nil _ _ _ _ _, by repeat (first | (with_reducible first | exact HB.out | apply below_alloc | apply pw_below_drewN | apply below_drew1) | exact HB.out)⟩
                                  · rw [if_neg c42] at H
                                    have c42b0 : mapGet false x5_2 ((rdOf ByteArray.empty t109 x23_2).extract 1 (rdOf ByteArray.empty t109 x23_2).size) = false := by simpa using c42
                                    clear c42
                                    have c43b0 := eq_true (of_decide_eq_true (by first | (with_reducible assumption) | assumption) : 1 ≤ ((rdOf ByteArray.empty t109 x23_2).size : Int))
                                    by_cases c44 : x5_2.length < 9223372036854775807
                                    · rw [if_pos c44] at H
                                      have c44b0 := eq_true c44
                                      have c44b1 : decide (x5_2.length < 9223372036854775807) = true := decide_eq_true c44
                                      clear c44
                                      have H' := Aside0.mk H
                                      clear H
                                      have p112 : 0 ≤ (x23_2 : Int) := of_decide_eq_true (by first | (with_reducible assumption) | assumption)
                                      have q112 : x23_2 < (t109.length : Int) := of_decide_eq_true (by first | (with_reducible assumption) | assumption)
                                      obtain ⟨ad112, e112, hx112_0⟩ := Kd.at_string (Kd.R_reads' HO_21.out).2.2 x23_2 p112 q112
                                      cases e112
                                      replace p112 := eq_true p112
                                      replace q112 := eq_true q112
                                      go_wp2_with (first | (at_lookup; (try (refine gate_guard (by rfl) ?_; dsimp only)); refine wpList_lookup_map_bool (K := K47) (base := w.heap.size) z47 _ Tryd.underlying4 rfl _ _ 47 rfl Tryd.underlying47 _ ?hok rfl rfl (by (with_reducible repeat (first | apply MapOwn.alloc | apply MapOwn.drewN | apply MapOwn.drew | apply MapOwn.setAny)); exact HM.out) ?_; (case hok => show (ByteArray.size _) ≤ 9223372036854775807; first | assumption | exact of_decide_eq_true (by first | (with_reducible assumption) | assumption)); (try rw [c42b0])) | (at_mapUpdate; (try (refine gate_guard (by rfl) ?_; dsimp only)); refine wpList_mapUpdate_map_bool (K := K47) (base := w.heap.size) z47 Tryd.underlying4 _ rfl _ _ _ 47 rfl Tryd.underlying47 _ _ ?hok rfl rfl rfl (by (with_reducible repeat (first | apply MapOwn.alloc | apply MapOwn.drewN | apply MapOwn.drew | apply MapOwn.setAny)); exact HM.out) (by first | assumption | exact of_decide_eq_true (by first | (with_reducible assumption) | assumption)) ?_; (case hok => show (ByteArray.size _) ≤ 9223372036854775807; first | assumption | exact of_decide_eq_true (by first | (with_reducible assumption) | assumption)); intro wM_ hm_ hg_; have nO0_ := Aside0.mk (Kd.R_mapped (by (with_reducible repeat (first | apply Kd.R_alloc | apply Kd.R_drewN | apply Kd.R_drew)); exact HO_4.out) (by (with_reducible repeat (first | apply MapOwn.alloc | apply MapOwn.drewN | apply MapOwn.drew | apply MapOwn.setAny)); exact HM.out : MapOwn K47 E47 _ w.heap.size _ _) hg_); have nO1_ := Aside0.mk (Kd.R_mapped (by (with_reducible repeat (first | apply Kd.R_alloc | apply Kd.R_drewN | apply Kd.R_drew)); exact HO_21.out) (by (with_reducible repeat (first | apply MapOwn.alloc | apply MapOwn.drewN | apply MapOwn.drew | apply MapOwn.setAny)); exact HM.out : MapOwn K47 E47 _ w.heap.size _ _) hg_); have nB_ := Aside0.mk (below_mapped (by repeat (first | (with_reducible first | exact HB.out | apply below_alloc | apply pw_below_drewN | apply below_drew1 | refine below_set ?_ (Aside0.out (by assumption))) | exact HB.out)) (by (with_reducible repeat (first | apply MapOwn.alloc | apply MapOwn.drewN | apply MapOwn.drew | apply MapOwn.setAny)); exact HM.out : MapOwn K47 E47 _ w.heap.size _ _) (Nat.le_refl _) hg_); clear HB HM HO_4 HO_21; have HM := Aside0.mk hm_; have HB := nB_; clear nB_ hm_ hg_; have HO_4 := nO0_; clear nO0_; have HO_21 := nO1_; clear nO1_) | ((with_reducible refine gate_callee (f := 21) rfl ?_); refine goesL_ (some 29) rfl rfl Tryd.func21 (by kernel_rfl) rfl #[.string (rdOf ByteArray.empty t109 x23_2)] rfl (by (try simp only [List.map_toArray, List.map_cons, List.map_nil]); first | done | rfl | (simp only [List.length_drop, List.length_take]; rfl)) ?_; (with_reducible refine (path_Kind.calls k2 (rdOf ByteArray.empty t109 x23_2) t113 _ A15.out).mono ?_); rintro e w' ⟨rfl, ⟨nd, rfl⟩⟩; refine ⟨_, rfl, ?_⟩) | ((with_reducible refine gate_callee (f := 15) rfl ?_); refine goesL_ (some 54) rfl rfl Tryd.func15 (by kernel_rfl) rfl #[.string ((rdOf ByteArray.empty t109 x23_2).extract 1 (rdOf ByteArray.empty t109 x23_2).size)] rfl (by (try simp only [List.map_toArray, List.map_cons, List.map_nil]); first | done | rfl | (simp only [List.length_drop, List.length_take]; rfl)) ?_; (with_reducible refine (ascii_Token.calls k2 ((rdOf ByteArray.empty t109 x23_2).extract 1 (rdOf ByteArray.empty t109 x23_2).size) true _ A38.out).mono ?_); rintro e w' ⟨rfl, ⟨nd, rfl⟩⟩; refine ⟨_, rfl, ?_⟩))
                                      go_roundg k2
                                      case measure => have := HJ1.out; have := HK2.out; omega
                                      case rel => exact ⟨(((rdOf ByteArray.empty t109 x23_2).extract 1 (rdOf ByteArray.empty t109 x23_2).size, true) :: x5_2), (wrap64 (x23_2 + 1)), (by first | rfl | (simp; done) | (simp [*]; done)), H', ⟨by have := HJ1.out; have := HK2.out; omega⟩, ⟨by (with_reducible repeat (first | apply Kd.R_alloc | apply Kd.R_drewN | apply Kd.R_drew)); exact HO_4.out⟩, ⟨by (with_reducible repeat (first | apply Kd.R_alloc | apply Kd.R_drewN | apply Kd.R_drew)); exact HO_21.out⟩, ⟨by (with_reducible repeat (first | apply MapOwn.alloc | apply MapOwn.drewN | apply MapOwn.drew | apply MapOwn.setAny)); exact HM.out⟩, ⟨by repeat (first | (with_reducible first | exact HB.out | apply below_alloc | apply pw_below_drewN | apply below_drew1) | exact HB.out)⟩⟩
                                    · rw [if_neg c44] at H
                                      exact absurd H (by simp)
                                · rw [if_neg c41] at H
                                  exact absurd H (by simp)
                              · replace c39 := Bool.eq_false_iff.mpr c39
                                subst c39
                                have H1 : (some (([] : List ByteArray), false)) = some (r1, r2) := by rw [if_neg (show ¬ (false = true) by decide)] at H; exact H
                                clear H
                                have H := H1
                                clear H1
                                simp only [Option.some.injEq, Prod.mk.injEq] at H
                                obtain ⟨rfl, rfl⟩ := H
                                have p112 : 0 ≤ (x23_2 : Int) := of_decide_eq_true (by first | (with_reducible assumption) | assumption)
                                have q112 : x23_2 < (t109.length : Int) := of_decide_eq_true (by first | (with_reducible assumption) | assumption)
                                obtain ⟨ad112, e112, hx112_0⟩ := Kd.at_string (Kd.R_reads' HO_21.out).2.2 x23_2 p112 q112
                                cases e112
                                replace p112 := eq_true p112
                                replace q112 := eq_true q112
                                go_wp2_with (first | (at_lookup; (try (refine gate_guard (by rfl) ?_; dsimp only)); refine wpList_lookup_map_bool (K := K47) (base := w.heap.size) z47 _ Tryd.underlying4 rfl _ _ 47 rfl Tryd.underlying47 _ ?hok rfl rfl (by (with_reducible repeat (first | apply MapOwn.alloc | apply MapOwn.drewN | apply MapOwn.drew | apply MapOwn.setAny)); exact HM.out) ?_; (case hok => show (ByteArray.size _) ≤ 9223372036854775807; first | assumption | exact of_decide_eq_true (by first | (with_reducible assumption) | assumption))) | (at_mapUpdate; (try (refine gate_guard (by rfl) ?_; dsimp only)); refine wpList_mapUpdate_map_bool (K := K47) (base := w.heap.size) z47 Tryd.underlying4 _ rfl _ _ _ 47 rfl Tryd.underlying47 _ _ ?hok rfl rfl rfl (by (with_reducible repeat (first | apply MapOwn.alloc | apply MapOwn.drewN | apply MapOwn.drew | apply MapOwn.setAny)); exact HM.out) (by first | assumption | exact of_decide_eq_true (by first | (with_reducible assumption) | assumption)) ?_; (case hok => show (ByteArray.size _) ≤ 9223372036854775807; first | assumption | exact of_decide_eq_true (by first | (with_reducible assumption) | assumption)); intro wM_ hm_ hg_; have nO0_ := Aside0.mk (Kd.R_mapped (by (with_reducible repeat (first | apply Kd.R_alloc | apply Kd.R_drewN | apply Kd.R_drew)); exact HO_4.out) (by (with_reducible repeat (first | apply MapOwn.alloc | apply MapOwn.drewN | apply MapOwn.drew | apply MapOwn.setAny)); exact HM.out : MapOwn K47 E47 _ w.heap.size _ _) hg_); have nO1_ := Aside0.mk (Kd.R_mapped (by (with_reducible repeat (first | apply Kd.R_alloc | apply Kd.R_drewN | apply Kd.R_drew)); exact HO_21.out) (by (with_reducible repeat (first | apply MapOwn.alloc | apply MapOwn.drewN | apply MapOwn.drew | apply MapOwn.setAny)); exact HM.out : MapOwn K47 E47 _ w.heap.size _ _) hg_); have nB_ := Aside0.mk (below_mapped (by repeat (first | (with_reducible first | exact HB.out | apply below_alloc | apply pw_below_drewN | apply below_drew1 | refine below_set ?_ (Aside0.out (by assumption))) | exact HB.out)) (by (with_reducible repeat (first | apply MapOwn.alloc | apply MapOwn.drewN | apply MapOwn.drew | apply MapOwn.setAny)); exact HM.out : MapOwn K47 E47 _ w.heap.size _ _) (Nat.le_refl _) hg_); clear HB HM HO_4 HO_21; have HM := Aside0.mk hm_; have HB := nB_; clear nB_ hm_ hg_; have HO_4 := nO0_; clear nO0_; have HO_21 := nO1_; clear nO1_) | ((with_reducible refine gate_callee (f := 21) rfl ?_); refine goesL_ (some 29) rfl rfl Tryd.func21 (by kernel_rfl) rfl #[.string (rdOf ByteArray.empty t109 x23_2)] rfl (by (try simp only [List.map_toArray, List.map_cons, List.map_nil]); first | done | rfl | (simp only [List.length_drop, List.length_take]; rfl)) ?_; (with_reducible refine (path_Kind.calls k2 (rdOf ByteArray.empty t109 x23_2) t113 _ A15.out).mono ?_); rintro e w' ⟨rfl, ⟨nd, rfl⟩⟩; refine ⟨_, rfl, ?_⟩) | ((with_reducible refine gate_callee (f := 15) rfl ?_); refine goesL_ (some 54) rfl rfl Tryd.func15 (by kernel_rfl) rfl #[.string ((rdOf ByteArray.empty t109 x23_2).extract 1 (rdOf ByteArray.empty t109 x23_2).size)] rfl (by (try simp only [List.map_toArray, List.map_cons, List.map_nil]); first | done | rfl | (simp only [List.length_drop, List.length_take]; rfl)) ?_; (with_reducible refine (ascii_Token.calls k2 ((rdOf ByteArray.empty t109 x23_2).extract 1 (rdOf ByteArray.empty t109 x23_2).size) false _ A38.out).mono ?_); rintro e w' ⟨rfl, ⟨nd, rfl⟩⟩; refine ⟨_, rfl, ?_⟩))
                                go_ret2
                                exact ⟨_, by first | rfl | (simp [errW_none, errW_some] <;> rfl) | (simp [*, errW_none, errW_some] <;> rfl), by first | exact Kd.R_nil _ _ _ _ _ | exact Kd.N_nil _ _ _ _ _ | exact Kd.V_nil _ _ _ _ _ | exact Kd.Q_nil _ _ _ _ _ | exact Kd.S_nil _ _ _ _ _, by repeat (first | (with_reducible first | exact HB.out | apply below_alloc | apply pw_below_drewN | apply below_drew1) | exact HB.out)⟩
                            · rw [if_neg c37] at H
                              exact absurd H (by simp)
                          · rw [if_neg c36] at H
                            have c36b0 : (t113 == 1) = false := beq_eq_false_iff_ne.mpr c36
                            have c36b1 : (t113 != 1) = true := bne_iff_ne.mpr c36
                            have H' := Aside0.mk H
                            clear H
                            have p112 : 0 ≤ (x23_2 : Int) := of_decide_eq_true (by first | (with_reducible assumption) | assumption)
                            have q112 : x23_2 < (t109.length : Int) := of_decide_eq_true (by first | (with_reducible assumption) | assumption)
                            obtain ⟨ad112, e112, hx112_0⟩ := Kd.at_string (Kd.R_reads' HO_21.out).2.2 x23_2 p112 q112
                            cases e112
                            replace p112 := eq_true p112
                            replace q112 := eq_true q112
                            go_wp2_with (first | (at_lookup; (try (refine gate_guard (by rfl) ?_; dsimp only)); refine wpList_lookup_map_bool (K := K47) (base := w.heap.size) z47 _ Tryd.underlying4 rfl _ _ 47 rfl Tryd.underlying47 _ ?hok rfl rfl (by (with_reducible repeat (first | apply MapOwn.alloc | apply MapOwn.drewN | apply MapOwn.drew | apply MapOwn.setAny)); exact HM.out) ?_; (case hok => show (ByteArray.size _) ≤ 9223372036854775807; first | assumption | exact of_decide_eq_true (by first | (with_reducible assumption) | assumption))) | (at_mapUpdate; (try (refine gate_guard (by rfl) ?_; dsimp only)); refine wpList_mapUpdate_map_bool (K := K47) (base := w.heap.size) z47 Tryd.underlying4 _ rfl _ _ _ 47 rfl Tryd.underlying47 _ _ ?hok rfl rfl rfl (by (with_reducible repeat (first | apply MapOwn.alloc | apply MapOwn.drewN | apply MapOwn.drew | apply MapOwn.setAny)); exact HM.out) (by first | assumption | exact of_decide_eq_true (by first | (with_reducible assumption) | assumption)) ?_; (case hok => show (ByteArray.size _) ≤ 9223372036854775807; first | assumption | exact of_decide_eq_true (by first | (with_reducible assumption) | assumption)); intro wM_ hm_ hg_; have nO0_ := Aside0.mk (Kd.R_mapped (by (with_reducible repeat (first | apply Kd.R_alloc | apply Kd.R_drewN | apply Kd.R_drew)); exact HO_4.out) (by (with_reducible repeat (first | apply MapOwn.alloc | apply MapOwn.drewN | apply MapOwn.drew | apply MapOwn.setAny)); exact HM.out : MapOwn K47 E47 _ w.heap.size _ _) hg_); have nO1_ := Aside0.mk (Kd.R_mapped (by (with_reducible repeat (first | apply Kd.R_alloc | apply Kd.R_drewN | apply Kd.R_drew)); exact HO_21.out) (by (with_reducible repeat (first | apply MapOwn.alloc | apply MapOwn.drewN | apply MapOwn.drew | apply MapOwn.setAny)); exact HM.out : MapOwn K47 E47 _ w.heap.size _ _) hg_); have nB_ := Aside0.mk (below_mapped (by repeat (first | (with_reducible first | exact HB.out | apply below_alloc | apply pw_below_drewN | apply below_drew1 | refine below_set ?_ (Aside0.out (by assumption))) | exact HB.out)) (by (with_reducible repeat (first | apply MapOwn.alloc | apply MapOwn.drewN | apply MapOwn.drew | apply MapOwn.setAny)); exact HM.out : MapOwn K47 E47 _ w.heap.size _ _) (Nat.le_refl _) hg_); clear HB HM HO_4 HO_21; have HM := Aside0.mk hm_; have HB := nB_; clear nB_ hm_ hg_; have HO_4 := nO0_; clear nO0_; have HO_21 := nO1_; clear nO1_) | ((with_reducible refine gate_callee (f := 21) rfl ?_); refine goesL_ (some 29) rfl rfl Tryd.func21 (by kernel_rfl) rfl #[.string (rdOf ByteArray.empty t109 x23_2)] rfl (by (try simp only [List.map_toArray, List.map_cons, List.map_nil]); first | done | rfl | (simp only [List.length_drop, List.length_take]; rfl)) ?_; (with_reducible refine (path_Kind.calls k2 (rdOf ByteArray.empty t109 x23_2) t113 _ A15.out).mono ?_); rintro e w' ⟨rfl, ⟨nd, rfl⟩⟩; refine ⟨_, rfl, ?_⟩))
                            go_roundg k2
                            case measure => have := HJ1.out; have := HK2.out; omega
                            case rel => exact ⟨(x5_2), (wrap64 (x23_2 + 1)), (by first | rfl | (simp; done) | (simp [*]; done)), H', ⟨by have := HJ1.out; have := HK2.out; omega⟩, ⟨by (with_reducible repeat (first | apply Kd.R_alloc | apply Kd.R_drewN | apply Kd.R_drew)); exact HO_4.out⟩, ⟨by (with_reducible repeat (first | apply Kd.R_alloc | apply Kd.R_drewN | apply Kd.R_drew)); exact HO_21.out⟩, ⟨by (with_reducible repeat (first | apply MapOwn.alloc | apply MapOwn.drewN | apply MapOwn.drew | apply MapOwn.setAny)); exact HM.out⟩, ⟨by repeat (first | (with_reducible first | exact HB.out | apply below_alloc | apply pw_below_drewN | apply below_drew1) | exact HB.out)⟩⟩
                    · rw [if_neg c14] at H
                      exact absurd H (by simp)
                  · rw [if_neg c13] at H
                    exact absurd H (by simp)
                · rw [if_neg c12] at H
                  have c12b0 : decide (x23_2 < (t109.length : Int)) = false := decide_eq_false c12
                  clear c12
                  simp only [Option.some.injEq, Prod.mk.injEq] at H
                  obtain ⟨rfl, rfl⟩ := H
                  go_wp2_with (first | (at_lookup; (try (refine gate_guard (by rfl) ?_; dsimp only)); refine wpList_lookup_map_bool (K := K47) (base := w.heap.size) z47 _ Tryd.underlying4 rfl _ _ 47 rfl Tryd.underlying47 _ ?hok rfl rfl (by (with_reducible repeat (first | apply MapOwn.alloc | apply MapOwn.drewN | apply MapOwn.drew | apply MapOwn.setAny)); exact HM.out) ?_; (case hok => show (ByteArray.size _) ≤ 9223372036854775807; first | assumption | exact of_decide_eq_true (by first | (with_reducible assumption) | assumption))) | (at_mapUpdate; (try (refine gate_guard (by rfl) ?_; dsimp only)); refine wpList_mapUpdate_map_bool (K := K47) (base := w.heap.size) z47 Tryd.underlying4 _ rfl _ _ _ 47 rfl Tryd.underlying47 _ _ ?hok rfl rfl rfl (by (with_reducible repeat (first | apply MapOwn.alloc | apply MapOwn.drewN | apply MapOwn.drew | apply MapOwn.setAny)); exact HM.out) (by first | assumption | exact of_decide_eq_true (by first | (with_reducible assumption) | assumption)) ?_; (case hok => show (ByteArray.size _) ≤ 9223372036854775807; first | assumption | exact of_decide_eq_true (by first | (with_reducible assumption) | assumption)); intro wM_ hm_ hg_; have nO0_ := Aside0.mk (Kd.R_mapped (by (with_reducible repeat (first | apply Kd.R_alloc | apply Kd.R_drewN | apply Kd.R_drew)); exact HO_4.out) (by (with_reducible repeat (first | apply MapOwn.alloc | apply MapOwn.drewN | apply MapOwn.drew | apply MapOwn.setAny)); exact HM.out : MapOwn K47 E47 _ w.heap.size _ _) hg_); have nO1_ := Aside0.mk (Kd.R_mapped (by (with_reducible repeat (first | apply Kd.R_alloc | apply Kd.R_drewN | apply Kd.R_drew)); exact HO_21.out) (by (with_reducible repeat (first | apply MapOwn.alloc | apply MapOwn.drewN | apply MapOwn.drew | apply MapOwn.setAny)); exact HM.out : MapOwn K47 E47 _ w.heap.size _ _) hg_); have nB_ := Aside0.mk (below_mapped (by repeat (first | (with_reducible first | exact HB.out | apply below_alloc | apply pw_below_drewN | apply below_drew1 | refine below_set ?_ (Aside0.out (by assumption))) | exact HB.out)) (by (with_reducible repeat (first | apply MapOwn.alloc | apply MapOwn.drewN | apply MapOwn.drew | apply MapOwn.setAny)); exact HM.out : MapOwn K47 E47 _ w.heap.size _ _) (Nat.le_refl _) hg_); clear HB HM HO_4 HO_21; have HM := Aside0.mk hm_; have HB := nB_; clear nB_ hm_ hg_; have HO_4 := nO0_; clear nO0_; have HO_21 := nO1_; clear nO1_))
                  go_ret2
                  exact ⟨_, by first | rfl | (simp [errW_none, errW_some] <;> rfl) | (simp [*, errW_none, errW_some] <;> rfl), by (with_reducible repeat (first | apply Kd.R_alloc | apply Kd.R_drewN | apply Kd.R_drew)); exact HO_4.out, by repeat (first | (with_reducible first | exact HB.out | apply below_alloc | apply pw_below_drewN | apply below_drew1) | exact HB.out)⟩
          · rw [if_neg c8] at H
            exact absurd H (by simp)

end Go.Proofs.YtidkhbkndbnnjaaDoor.X

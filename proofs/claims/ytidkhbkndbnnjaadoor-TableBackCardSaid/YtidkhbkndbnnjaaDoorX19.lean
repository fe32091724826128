-- Written for this claim by a program of this session (wip/xprint.py). Not trusted: Lean checks it.
import Derived.Test.YtidkhbkndbnnjaaDoorX0
namespace Go.Proofs.YtidkhbkndbnnjaaDoor.X
open Go.RowKit Go.Proofs.YtidkhbkndbnnjaaDoorW.PrintWords Go.Proofs.YtidkhbkndbnnjaaDoorW.PrintLast Go.Proofs.YtidkhbkndbnnjaaDoorW.PrintMore
attribute [local go_sem] max2_int min2_int max_two min_two max_three min_three max_four min_four   -- for this text's walks alone
set_option linter.unusedVariables false
set_option linter.unusedSimpArgs false

/-! ### table_Print: function 18 -/
def table_Print.l0 : Nat → ByteArray → List (S27) → Int → Int → Option (ByteArray)
  | 0, _, _, _, _ => none
  | k + 1, x3, x6, x7, x8 => if x8 < x7 then (if 0 ≤ x8 then (if x8 < (x6.length : Int) then (if ((rd_T27 x6 x8).f0).size + 1 ≤ 9223372036854775807 then (if (((rd_T27 x6 x8).f0) ++ (⟨#[32]⟩ : ByteArray)).size + ((rd_T27 x6 x8).f1).size ≤ 9223372036854775807 then (if ((((rd_T27 x6 x8).f0) ++ (⟨#[32]⟩ : ByteArray)) ++ ((rd_T27 x6 x8).f1)).size + 1 ≤ 9223372036854775807 then (if (((((rd_T27 x6 x8).f0) ++ (⟨#[32]⟩ : ByteArray)) ++ ((rd_T27 x6 x8).f1)) ++ (⟨#[32]⟩ : ByteArray)).size + ((rd_T27 x6 x8).f2).size ≤ 9223372036854775807 then (if ((((((rd_T27 x6 x8).f0) ++ (⟨#[32]⟩ : ByteArray)) ++ ((rd_T27 x6 x8).f1)) ++ (⟨#[32]⟩ : ByteArray)) ++ ((rd_T27 x6 x8).f2)).size + 1 ≤ 9223372036854775807 then (if x3.size + (((((((rd_T27 x6 x8).f0) ++ (⟨#[32]⟩ : ByteArray)) ++ ((rd_T27 x6 x8).f1)) ++ (⟨#[32]⟩ : ByteArray)) ++ ((rd_T27 x6 x8).f2)) ++ (⟨#[10]⟩ : ByteArray)).size ≤ 9223372036854775807 then (table_Print.l0 k (x3 ++ (((((((rd_T27 x6 x8).f0) ++ (⟨#[32]⟩ : ByteArray)) ++ ((rd_T27 x6 x8).f1)) ++ (⟨#[32]⟩ : ByteArray)) ++ ((rd_T27 x6 x8).f2)) ++ (⟨#[10]⟩ : ByteArray))) x6 x7 (wrap64 (x8 + 1))) else (none)) else (none)) else (none)) else (none)) else (none)) else (none)) else (none)) else (none)) else (some x3)
def table_Print.f (k : Nat) (l0 : List (S27)) : Option (ByteArray) := table_Print.l0 k (⟨#[]⟩ : ByteArray) l0 (l0.length : Int) 0
theorem table_Print.mono_l : ∀ k, (∀ y0 y1 y2 y3, LeO (table_Print.l0 k y0 y1 y2 y3) (table_Print.l0 (k + 1) y0 y1 y2 y3))
  | 0 => fun _ _ _ _ r h => by simp [table_Print.l0] at h
  | k + 1 => by
    have ih0 := table_Print.mono_l k
    · intro y0 y1 y2 y3
      unfold table_Print.l0
      repeat' first
      | (with_reducible exact ih0 _ _ _ _)
      | (with_reducible exact LeO.refl _)
      | (with_reducible exact LeO.none _)
      | (with_reducible refine LeO.ite ?_ ?_)
      | (with_reducible refine LeO.bind ?_ (fun _ => ?_))
      | exact ih0 _ _ _ _
      | exact LeO.none _
      | refine LeO.ite ?_ ?_
      | refine LeO.bind ?_ (fun _ => ?_)
theorem table_Print.mono : ∀ a0 k, LeO (table_Print.f k a0) (table_Print.f (k + 1) a0) := by
  intro a0 k
  have ih0 := table_Print.mono_l k
  unfold table_Print.f
  repeat' first
      | (with_reducible exact ih0 _ _ _ _)
      | (with_reducible exact LeO.refl _)
      | (with_reducible exact LeO.none _)
      | (with_reducible refine LeO.ite ?_ ?_)
      | (with_reducible refine LeO.bind ?_ (fun _ => ?_))
      | exact ih0 _ _ _ _
      | exact LeO.none _
      | refine LeO.ite ?_ ?_
      | refine LeO.bind ?_ (fun _ => ?_)
set_option maxHeartbeats 8000000 in
set_option maxRecDepth 100000 in
theorem table_Print.calls (k : Nat) (A0 : Option Addr) (c0 : Nat) (l0 : List (S27)) (r : ByteArray) (w : World) (hr0 : Kd.C k27 w A0 l0.length l0) (hc0 : l0.length ≤ c0) (h : table_Print.f k l0 = some r) :
    Calls Tryd.prog 18 #[.slice A0 l0.length c0] w fun e w' => e = .returned (.string r) ∧ Below w.heap.size w w' := by
  have hu27 := Tryd.underlying27
  have HR0 := Aside0.mk hr0
  have HC0 := Aside0.mk hc0
  clear hr0 hc0
  have HB := Aside0.mk (Below.refl w.heap.size w)
  have H : (table_Print.l0 k (⟨#[]⟩ : ByteArray) l0 (l0.length : Int) 0) = some r := h
  clear h
  have H' := Aside0.mk H
  clear H
  go_enter Tryd.func18, Tryd.ntmps18
  go_wp2
  go_loopg [3, 8] k (fun kq v3 v8 w' => ∃ (x3_1 : ByteArray) (x8_1 : Int), v3 = .string x3_1 ∧ v8 = .int .i64 x8_1 ∧ Aside0 (table_Print.l0 kq x3_1 l0 (l0.length : Int) x8_1 = some r) ∧ Aside0 (kq ≤ k) ∧ Aside0 (Below w.heap.size w w'))
  case atStart => exact ⟨((⟨#[]⟩ : ByteArray)), (0), (by first | rfl | (simp; done) | (simp [*]; done)), (by first | rfl | (simp; done) | (simp [*]; done)), H', ⟨Nat.le_refl _⟩, ⟨by repeat (first | (with_reducible first | exact HB.out | apply below_alloc | apply pw_below_drewN | apply below_drew1) | exact HB.out)⟩⟩
  case round =>
    clear H'
    try clear c1
    obtain ⟨x3_1, x8_1, rfl, rfl, HA, HK1, HB⟩ := hrel
    cases gk with
    | zero => exact absurd HA.out (by simp [table_Print.l0])
    | succ k1 =>
      have H := HA.out
      clear HA
      simp only [table_Print.l0] at H
      by_cases c2 : x8_1 < (l0.length : Int)
      · rw [if_pos c2] at H
        have c2b0 : decide (x8_1 < (l0.length : Int)) = true := decide_eq_true c2
        clear c2
        by_cases c3 : 0 ≤ x8_1
        · rw [if_pos c3] at H
          have c3b0 : decide (0 ≤ x8_1) = true := decide_eq_true c3
          clear c3
          by_cases c4 : x8_1 < (l0.length : Int)
          · rw [if_pos c4] at H
            have c4b0 : decide (x8_1 < (l0.length : Int)) = true := decide_eq_true c4
            clear c4
            by_cases c5 : ((rd_T27 l0 x8_1).f0).size + 1 ≤ 9223372036854775807
            · rw [if_pos c5] at H
              have c5b0 := eq_true c5
              have c5b1 : decide (((rd_T27 l0 x8_1).f0).size + 1 ≤ 9223372036854775807) = true := decide_eq_true c5
              try have c5b2 : (9223372036854775807 < ((rd_T27 l0 x8_1).f0).size + 1) = False := eq_false (Nat.not_lt.2 c5)
              by_cases c6 : (((rd_T27 l0 x8_1).f0) ++ (⟨#[32]⟩ : ByteArray)).size + ((rd_T27 l0 x8_1).f1).size ≤ 9223372036854775807
              · rw [if_pos c6] at H
                have c6b0 := eq_true c6
                have c6b1 : decide ((((rd_T27 l0 x8_1).f0) ++ (⟨#[32]⟩ : ByteArray)).size + ((rd_T27 l0 x8_1).f1).size ≤ 9223372036854775807) = true := decide_eq_true c6
                try have c6b2 : (9223372036854775807 < (((rd_T27 l0 x8_1).f0) ++ (⟨#[32]⟩ : ByteArray)).size + ((rd_T27 l0 x8_1).f1).size) = False := eq_false (Nat.not_lt.2 c6)
                try have c6b3 : (9223372036854775807 < ((rd_T27 l0 x8_1).f0).size + 1 + ((rd_T27 l0 x8_1).f1).size) = False := eq_false (by have h_ := c6; simp only [ByteArray.size_append] at h_; have e0_ : (⟨#[32]⟩ : ByteArray).size = 1 := rfl; omega)
                by_cases c7 : ((((rd_T27 l0 x8_1).f0) ++ (⟨#[32]⟩ : ByteArray)) ++ ((rd_T27 l0 x8_1).f1)).size + 1 ≤ 9223372036854775807
                · rw [if_pos c7] at H
                  have c7b0 := eq_true c7
                  have c7b1 : decide (((((rd_T27 l0 x8_1).f0) ++ (⟨#[32]⟩ : ByteArray)) ++ ((rd_T27 l0 x8_1).f1)).size + 1 ≤ 9223372036854775807) = true := decide_eq_true c7
                  try have c7b2 : (9223372036854775807 < ((((rd_T27 l0 x8_1).f0) ++ (⟨#[32]⟩ : ByteArray)) ++ ((rd_T27 l0 x8_1).f1)).size + 1) = False := eq_false (Nat.not_lt.2 c7)
                  try have c7b3 : (9223372036854775807 < ((rd_T27 l0 x8_1).f0).size + 1 + ((rd_T27 l0 x8_1).f1).size + 1) = False := eq_false (by have h_ := c7; simp only [ByteArray.size_append] at h_; have e0_ : (⟨#[32]⟩ : ByteArray).size = 1 := rfl; omega)
                  by_cases c8 : (((((rd_T27 l0 x8_1).f0) ++ (⟨#[32]⟩ : ByteArray)) ++ ((rd_T27 l0 x8_1).f1)) ++ (⟨#[32]⟩ : ByteArray)).size + ((rd_T27 l0 x8_1).f2).size ≤ 9223372036854775807
                  · rw [if_pos c8] at H
                    have c8b0 := eq_true c8
                    have c8b1 : decide ((((((rd_T27 l0 x8_1).f0) ++ (⟨#[32]⟩ : ByteArray)) ++ ((rd_T27 l0 x8_1).f1)) ++ (⟨#[32]⟩ : ByteArray)).size + ((rd_T27 l0 x8_1).f2).size ≤ 9223372036854775807) = true := decide_eq_true c8
                    try have c8b2 : (9223372036854775807 < (((((rd_T27 l0 x8_1).f0) ++ (⟨#[32]⟩ : ByteArray)) ++ ((rd_T27 l0 x8_1).f1)) ++ (⟨#[32]⟩ : ByteArray)).size + ((rd_T27 l0 x8_1).f2).size) = False := eq_false (Nat.not_lt.2 c8)
                    try have c8b3 : (9223372036854775807 < ((rd_T27 l0 x8_1).f0).size + 1 + ((rd_T27 l0 x8_1).f1).size + 1 + ((rd_T27 l0 x8_1).f2).size) = False := eq_false (by have h_ := c8; simp only [ByteArray.size_append] at h_; have e0_ : (⟨#[32]⟩ : ByteArray).size = 1 := rfl; omega)
                    by_cases c9 : ((((((rd_T27 l0 x8_1).f0) ++ (⟨#[32]⟩ : ByteArray)) ++ ((rd_T27 l0 x8_1).f1)) ++ (⟨#[32]⟩ : ByteArray)) ++ ((rd_T27 l0 x8_1).f2)).size + 1 ≤ 9223372036854775807
                    · rw [if_pos c9] at H
                      have c9b0 := eq_true c9
                      have c9b1 : decide (((((((rd_T27 l0 x8_1).f0) ++ (⟨#[32]⟩ : ByteArray)) ++ ((rd_T27 l0 x8_1).f1)) ++ (⟨#[32]⟩ : ByteArray)) ++ ((rd_T27 l0 x8_1).f2)).size + 1 ≤ 9223372036854775807) = true := decide_eq_true c9
                      try have c9b2 : (9223372036854775807 < ((((((rd_T27 l0 x8_1).f0) ++ (⟨#[32]⟩ : ByteArray)) ++ ((rd_T27 l0 x8_1).f1)) ++ (⟨#[32]⟩ : ByteArray)) ++ ((rd_T27 l0 x8_1).f2)).size + 1) = False := eq_false (Nat.not_lt.2 c9)
                      try have c9b3 : (9223372036854775807 < ((rd_T27 l0 x8_1).f0).size + 1 + ((rd_T27 l0 x8_1).f1).size + 1 + ((rd_T27 l0 x8_1).f2).size + 1) = False := eq_false (by have h_ := c9; simp only [ByteArray.size_append] at h_; have e0_ : (⟨#[32]⟩ : ByteArray).size = 1 := rfl; omega)
                      by_cases c10 : x3_1.size + (((((((rd_T27 l0 x8_1).f0) ++ (⟨#[32]⟩ : ByteArray)) ++ ((rd_T27 l0 x8_1).f1)) ++ (⟨#[32]⟩ : ByteArray)) ++ ((rd_T27 l0 x8_1).f2)) ++ (⟨#[10]⟩ : ByteArray)).size ≤ 9223372036854775807
                      · rw [if_pos c10] at H
                        have c10b0 := eq_true c10
                        have c10b1 : decide (x3_1.size + (((((((rd_T27 l0 x8_1).f0) ++ (⟨#[32]⟩ : ByteArray)) ++ ((rd_T27 l0 x8_1).f1)) ++ (⟨#[32]⟩ : ByteArray)) ++ ((rd_T27 l0 x8_1).f2)) ++ (⟨#[10]⟩ : ByteArray)).size ≤ 9223372036854775807) = true := decide_eq_true c10
                        try have c10b2 : (9223372036854775807 < x3_1.size + (((((((rd_T27 l0 x8_1).f0) ++ (⟨#[32]⟩ : ByteArray)) ++ ((rd_T27 l0 x8_1).f1)) ++ (⟨#[32]⟩ : ByteArray)) ++ ((rd_T27 l0 x8_1).f2)) ++ (⟨#[10]⟩ : ByteArray)).size) = False := eq_false (Nat.not_lt.2 c10)
                        try have c10b3 : (9223372036854775807 < x3_1.size + ((rd_T27 l0 x8_1).f0).size + 1 + ((rd_T27 l0 x8_1).f1).size + 1 + ((rd_T27 l0 x8_1).f2).size + 1) = False := eq_false (by have h_ := c10; simp only [ByteArray.size_append] at h_; have e0_ : (⟨#[32]⟩ : ByteArray).size = 1 := rfl; have e1_ : (⟨#[10]⟩ : ByteArray).size = 1 := rfl; omega)
                        have H' := Aside0.mk H
                        clear H
                        have p251 : 0 ≤ (x8_1 : Int) := of_decide_eq_true (by first | (with_reducible assumption) | assumption)
                        have q251 : x8_1 < (l0.length : Int) := of_decide_eq_true (by first | (with_reducible assumption) | assumption)
                        obtain ⟨ad251, e251, hx251_0, hx251_1, hx251_2⟩ := at_T27 HR0.out x8_1 p251 q251
                        cases e251
                        replace hx251_0 := (HB.out.cell (World.block_lt_of_cell? w _ hx251_0)).trans hx251_0
                        replace hx251_1 := (HB.out.cell (World.block_lt_of_cell? w _ hx251_1)).trans hx251_1
                        replace hx251_2 := (HB.out.cell (World.block_lt_of_cell? w _ hx251_2)).trans hx251_2
                        replace p251 := eq_true p251
                        replace q251 := eq_true q251
                        go_wp2_with (first | ((with_reducible refine gate_dst (N := 5) rfl ?_); refine box_event ?hg (N := 5) ?hd (cs := #[.string (⟨#[]⟩ : ByteArray), .string (⟨#[]⟩ : ByteArray), .string (⟨#[]⟩ : ByteArray)]) (t := 27) ?hr ?_; (case hd => rfl); (case hg => rfl); (case hr => first | (go_simp; done) | (go_simp; rfl)); intro gb252 hg w11 hbox hb; have n0_ := Aside0.mk (below_step (by repeat (first | (with_reducible first | exact HB.out | apply below_alloc | apply pw_below_drewN | apply below_drew1) | exact HB.out)) hb); have n1_ := Aside0.mk (hbox); have n2_ := Aside0.mk ((by rw [hg]; exact (below_size (by repeat (first | (with_reducible first | exact HB.out | apply below_alloc | apply pw_below_drewN | apply below_drew1) | exact HB.out))) : w.heap.size ≤ gb252)); have n3_ := Aside0.mk ((by rw [hg]; exact (below_size (by repeat (first | (with_reducible first | exact HB.out | apply below_alloc | apply pw_below_drewN | apply below_drew1) | exact HB.out))) : w.heap.size ≤ gb252)); clear HB; have HB := n0_; have BK252 := n1_; have GW252 := n2_; have GE252 := n3_; clear n0_ n1_ n2_ n3_; clear hb hbox hg; have hcz12_0 : w11.cell? ⟨gb252, 0, none⟩ = some (.string (⟨#[]⟩ : ByteArray)) := (blk_cell BK252.out 0).trans rfl; have hcz12_1 : w11.cell? ⟨gb252, 1, none⟩ = some (.string (⟨#[]⟩ : ByteArray)) := (blk_cell BK252.out 1).trans rfl; have hcz12_2 : w11.cell? ⟨gb252, 2, none⟩ = some (.string (⟨#[]⟩ : ByteArray)) := (blk_cell BK252.out 2).trans rfl; have hfz12_0 := blk_frozen BK252.out 0; have hfz12_1 := blk_frozen BK252.out 1; have hfz12_2 := blk_frozen BK252.out 2))
                        go_roundg k1
                        case measure => have := HK1.out; omega
                        case rel => exact ⟨(x3_1 ++ (((((((rd_T27 l0 x8_1).f0) ++ (⟨#[32]⟩ : ByteArray)) ++ ((rd_T27 l0 x8_1).f1)) ++ (⟨#[32]⟩ : ByteArray)) ++ ((rd_T27 l0 x8_1).f2)) ++ (⟨#[10]⟩ : ByteArray))), (wrap64 (x8_1 + 1)), (by first | rfl | (simp; done) | (simp [*]; done)), (by first | rfl | (simp; done) | (simp [*]; done)), H', ⟨by have := HK1.out; omega⟩, ⟨by repeat (first | (with_reducible first | exact HB.out | apply below_alloc | apply pw_below_drewN | apply below_drew1 | refine below_set ?_ GE252.out) | exact HB.out)⟩⟩
                      · rw [if_neg c10] at H
                        exact absurd H (by simp)
                    · rw [if_neg c9] at H
                      exact absurd H (by simp)
                  · rw [if_neg c8] at H
                    exact absurd H (by simp)
                · rw [if_neg c7] at H
                  exact absurd H (by simp)
              · rw [if_neg c6] at H
                exact absurd H (by simp)
            · rw [if_neg c5] at H
              exact absurd H (by simp)
          · rw [if_neg c4] at H
            exact absurd H (by simp)
        · rw [if_neg c3] at H
          exact absurd H (by simp)
      · rw [if_neg c2] at H
        have c2b0 : decide (x8_1 < (l0.length : Int)) = false := decide_eq_false c2
        clear c2
        obtain rfl := Option.some.inj H
        go_wp2
        go_ret
        exact ⟨by first | rfl | (simp [errW_none, errW_some] <;> rfl) | (simp [*, errW_none, errW_some] <;> rfl), by repeat (first | (with_reducible first | exact HB.out | apply below_alloc | apply pw_below_drewN | apply below_drew1) | exact HB.out)⟩

end Go.Proofs.YtidkhbkndbnnjaaDoor.X

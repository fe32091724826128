-- Written for this claim by a program of this session (wip/xprint.py). Not trusted: Lean checks it.
import Derived.Test.YtidkhbkndbnnjaaDoorX0
import Derived.Test.YtidkhbkndbnnjaaDoorX9
import Derived.Test.YtidkhbkndbnnjaaDoorX12
import Derived.Test.YtidkhbkndbnnjaaDoorX13
namespace Go.Proofs.YtidkhbkndbnnjaaDoor.X
open Go.RowKit Go.Proofs.YtidkhbkndbnnjaaDoorW.PrintWords Go.Proofs.YtidkhbkndbnnjaaDoorW.PrintLast Go.Proofs.YtidkhbkndbnnjaaDoorW.PrintMore
attribute [local go_sem] max2_int min2_int max_two min_two max_three min_three max_four min_four   -- for this text's walks alone
set_option linter.unusedVariables false
set_option linter.unusedSimpArgs false

/-! ### crossroadlaw07_TableMany: function 4 -/
def crossroadlaw07_TableMany.l0 : Nat → Int → ByteArray → Int → Int → Option (Bool)
  | 0, _, _, _, _ => none
  | k + 1, x0, x3, x11, x12 => if x12 < x11 then ((some (([(wrap64 (97 + (wrap64 (Int.tdiv x12 26)))) % 256, (wrap64 (97 + (Int.tmod x12 26))) % 256] : List Int) : List Int)).bind fun y206 => (if 6 + (strOfNums y206).size ≤ 9223372036854775807 then (if ((⟨#[71, 69, 84, 32, 47, 114]⟩ : ByteArray) ++ (strOfNums y206)).size + 5 ≤ 9223372036854775807 then (if x3.size + (((⟨#[71, 69, 84, 32, 47, 114]⟩ : ByteArray) ++ (strOfNums y206)) ++ (⟨#[32, 103, 101, 116, 10]⟩ : ByteArray)).size ≤ 9223372036854775807 then (crossroadlaw07_TableMany.l0 k x0 (x3 ++ (((⟨#[71, 69, 84, 32, 47, 114]⟩ : ByteArray) ++ (strOfNums y206)) ++ (⟨#[32, 103, 101, 116, 10]⟩ : ByteArray))) x11 (wrap64 (x12 + 1))) else (none)) else (none)) else (none))) else ((table_Parse.f k x3).bind fun bt209 => (if x0 > 24 then (if bt209.2 = 2 then (some ((bt209.1.length : Int) == 0)) else (some false)) else (if bt209.2 = 0 then (some ((bt209.1.length : Int) == x0)) else (some false))))
def crossroadlaw07_TableMany.f (k : Nat) (a0 : Int) : Option (Bool) := (crossroadlaw07_fit.f k).bind fun t205 => (if t205 = true then (crossroadlaw07_TableMany.l0 k (Go.bits .and .i64 a0 63) (⟨#[]⟩ : ByteArray) (Go.bits .and .i64 a0 63) 0) else (some false))
theorem crossroadlaw07_TableMany.mono_l : ∀ k, (∀ y0 y1 y2 y3, LeO (crossroadlaw07_TableMany.l0 k y0 y1 y2 y3) (crossroadlaw07_TableMany.l0 (k + 1) y0 y1 y2 y3))
  | 0 => fun _ _ _ _ r h => by simp [crossroadlaw07_TableMany.l0] at h
  | k + 1 => by
    have ih0 := crossroadlaw07_TableMany.mono_l k
    · intro y0 y1 y2 y3
      unfold crossroadlaw07_TableMany.l0
      repeat' first
      | (with_reducible exact ih0 _ _ _ _)
      | (with_reducible exact crossroadlaw07_fit.mono _)
      | (with_reducible exact table_Parse.mono _ _)
      | (with_reducible exact LeO.refl _)
      | (with_reducible exact LeO.none _)
      | (with_reducible refine LeO.ite ?_ ?_)
      | (with_reducible refine LeO.bind ?_ (fun _ => ?_))
      | exact ih0 _ _ _ _
      | exact crossroadlaw07_fit.mono _
      | exact table_Parse.mono _ _
      | exact LeO.none _
      | refine LeO.ite ?_ ?_
      | refine LeO.bind ?_ (fun _ => ?_)
theorem crossroadlaw07_TableMany.mono : ∀ a0 k, LeO (crossroadlaw07_TableMany.f k a0) (crossroadlaw07_TableMany.f (k + 1) a0) := by
  intro a0 k
  have ih0 := crossroadlaw07_TableMany.mono_l k
  unfold crossroadlaw07_TableMany.f
  repeat' first
      | (with_reducible exact ih0 _ _ _ _)
      | (with_reducible exact crossroadlaw07_fit.mono _)
      | (with_reducible exact table_Parse.mono _ _)
      | (with_reducible exact LeO.refl _)
      | (with_reducible exact LeO.none _)
      | (with_reducible refine LeO.ite ?_ ?_)
      | (with_reducible refine LeO.bind ?_ (fun _ => ?_))
      | exact ih0 _ _ _ _
      | exact crossroadlaw07_fit.mono _
      | exact table_Parse.mono _ _
      | exact LeO.none _
      | refine LeO.ite ?_ ?_
      | refine LeO.bind ?_ (fun _ => ?_)
set_option maxHeartbeats 8000000 in
set_option maxRecDepth 100000 in
theorem crossroadlaw07_TableMany.calls (k : Nat) (a0 : Int) (r : Bool) (w : World) (h : crossroadlaw07_TableMany.f k a0 = some r) (hG : GlobOK w) :
    Calls Tryd.prog 4 #[.int .i64 a0] w fun e w' => e = .returned (.bool r) ∧ Below w.heap.size w w' := by
  have HG := Aside0.mk hG
  clear hG
  have HB := Aside0.mk (Below.refl w.heap.size w)
  have H : ((crossroadlaw07_fit.f k).bind fun t205 => (if t205 = true then (crossroadlaw07_TableMany.l0 k (Go.bits .and .i64 a0 63) (⟨#[]⟩ : ByteArray) (Go.bits .and .i64 a0 63) 0) else (some false))) = some r := h
  clear h
  replace H := Option.bind_eq_some_iff.mp H
  obtain ⟨t205, A20, H⟩ := H
  replace H : (if t205 = true then (crossroadlaw07_TableMany.l0 k (Go.bits .and .i64 a0 63) (⟨#[]⟩ : ByteArray) (Go.bits .and .i64 a0 63) 0) else (some false)) = some r := H
  have A2 := Aside0.mk A20
  clear A20
  by_cases c3 : t205 = true
  · subst c3
    have H1 : (crossroadlaw07_TableMany.l0 k (Go.bits .and .i64 a0 63) (⟨#[]⟩ : ByteArray) (Go.bits .and .i64 a0 63) 0) = some r := by rw [if_pos rfl] at H; exact H
    clear H
    have H := H1
    clear H1
    have H' := Aside0.mk H
    clear H
    go_enter Tryd.func4, Tryd.ntmps4
    go_wp2_with (first | ((with_reducible refine gate_callee (f := 9) rfl ?_); refine goesL_ (some 7) rfl rfl Tryd.func9 (by kernel_rfl) rfl #[] rfl (by (try simp only [List.map_toArray, List.map_cons, List.map_nil]); first | done | rfl | (simp only [List.length_drop, List.length_take]; rfl)) ?_; (with_reducible refine (crossroadlaw07_fit.calls k  true _ A2.out ?glob53).mono ?_); (case glob53 => exact GlobOK.below HG.out (by repeat (first | (with_reducible first | exact HB.out | apply below_alloc | apply pw_below_drewN | apply below_drew1 | refine below_set ?_ (Aside0.out (by assumption))) | exact HB.out)) rfl); rintro e w4 ⟨rfl, hb⟩; refine ⟨_, rfl, ?_⟩; have n0_ := Aside0.mk (below_step (by repeat (first | (with_reducible first | exact HB.out | apply below_alloc | apply pw_below_drewN | apply below_drew1) | exact HB.out)) hb); clear HB; have HB := n0_; clear n0_; (try clear hb); (try clear hb2); (try clear hk); (try clear hi)))
    go_loopg [3, 12] k (fun kq v3 v12 w' => ∃ (x3_1 : ByteArray) (x12_1 : Int), v3 = .string x3_1 ∧ v12 = .int .i64 x12_1 ∧ Aside0 (crossroadlaw07_TableMany.l0 kq (Go.bits .and .i64 a0 63) x3_1 (Go.bits .and .i64 a0 63) x12_1 = some r) ∧ Aside0 (kq ≤ k) ∧ Aside0 (Below w.heap.size w w'))
    case atStart => exact ⟨((⟨#[]⟩ : ByteArray)), (0), (by first | rfl | (simp; done) | (simp [*]; done)), (by first | rfl | (simp; done) | (simp [*]; done)), H', ⟨Nat.le_refl _⟩, ⟨by repeat (first | (with_reducible first | exact HB.out | apply below_alloc | apply pw_below_drewN | apply below_drew1) | exact HB.out)⟩⟩
    case round =>
      clear H'
      try clear p2
      try clear c3
      try clear c4
      obtain ⟨x3_1, x12_1, rfl, rfl, HA, HK1, HB⟩ := hrel
      cases gk with
      | zero => exact absurd HA.out (by simp [crossroadlaw07_TableMany.l0])
      | succ k1 =>
        have H := HA.out
        clear HA
        simp only [crossroadlaw07_TableMany.l0] at H
        by_cases c5 : x12_1 < (Go.bits .and .i64 a0 63)
        · rw [if_pos c5] at H
          have c5b0 : decide (x12_1 < (Go.bits .and .i64 a0 63)) = true := decide_eq_true c5
          clear c5
          obtain ⟨y206, hy206⟩ : ∃ y_ : List Int, y_ = (([(wrap64 (97 + (wrap64 (Int.tdiv x12_1 26)))) % 256, (wrap64 (97 + (Int.tmod x12_1 26))) % 256] : List Int)) := ⟨_, rfl⟩
          replace H : (if 6 + (strOfNums y206).size ≤ 9223372036854775807 then (if ((⟨#[71, 69, 84, 32, 47, 114]⟩ : ByteArray) ++ (strOfNums y206)).size + 5 ≤ 9223372036854775807 then (if x3_1.size + (((⟨#[71, 69, 84, 32, 47, 114]⟩ : ByteArray) ++ (strOfNums y206)) ++ (⟨#[32, 103, 101, 116, 10]⟩ : ByteArray)).size ≤ 9223372036854775807 then (crossroadlaw07_TableMany.l0 k1 (Go.bits .and .i64 a0 63) (x3_1 ++ (((⟨#[71, 69, 84, 32, 47, 114]⟩ : ByteArray) ++ (strOfNums y206)) ++ (⟨#[32, 103, 101, 116, 10]⟩ : ByteArray))) (Go.bits .and .i64 a0 63) (wrap64 (x12_1 + 1))) else (none)) else (none)) else (none)) = some r := by first | (rw [hy206]; with_reducible exact H) | (have H2_ := (Option.bind_some _ _).symm.trans H; rw [hy206]; with_reducible exact H2_) | (have H2_ := (Option.bind_some _ _).symm.trans H; with_reducible exact H2_) | with_reducible exact H | (rw [hy206]; exact H) | exact H
          have Ny206 := Aside0.mk hy206
          clear hy206
          by_cases c6 : 6 + (strOfNums y206).size ≤ 9223372036854775807
          · rw [if_pos c6] at H
            have c6b0 := eq_true c6
            have c6b1 : decide (6 + (strOfNums y206).size ≤ 9223372036854775807) = true := decide_eq_true c6
            try have c6b2 : (9223372036854775807 < 6 + (strOfNums y206).size) = False := eq_false (Nat.not_lt.2 c6)
            by_cases c7 : ((⟨#[71, 69, 84, 32, 47, 114]⟩ : ByteArray) ++ (strOfNums y206)).size + 5 ≤ 9223372036854775807
            · rw [if_pos c7] at H
              have c7b0 := eq_true c7
              have c7b1 : decide (((⟨#[71, 69, 84, 32, 47, 114]⟩ : ByteArray) ++ (strOfNums y206)).size + 5 ≤ 9223372036854775807) = true := decide_eq_true c7
              try have c7b2 : (9223372036854775807 < ((⟨#[71, 69, 84, 32, 47, 114]⟩ : ByteArray) ++ (strOfNums y206)).size + 5) = False := eq_false (Nat.not_lt.2 c7)
              try have c7b3 : (9223372036854775807 < 6 + (strOfNums y206).size + 5) = False := eq_false (by have h_ := c7; simp only [ByteArray.size_append] at h_; have e0_ : (⟨#[71, 69, 84, 32, 47, 114]⟩ : ByteArray).size = 6 := rfl; omega)
              by_cases c8 : x3_1.size + (((⟨#[71, 69, 84, 32, 47, 114]⟩ : ByteArray) ++ (strOfNums y206)) ++ (⟨#[32, 103, 101, 116, 10]⟩ : ByteArray)).size ≤ 9223372036854775807
              · rw [if_pos c8] at H
                have c8b0 := eq_true c8
                have c8b1 : decide (x3_1.size + (((⟨#[71, 69, 84, 32, 47, 114]⟩ : ByteArray) ++ (strOfNums y206)) ++ (⟨#[32, 103, 101, 116, 10]⟩ : ByteArray)).size ≤ 9223372036854775807) = true := decide_eq_true c8
                try have c8b2 : (9223372036854775807 < x3_1.size + (((⟨#[71, 69, 84, 32, 47, 114]⟩ : ByteArray) ++ (strOfNums y206)) ++ (⟨#[32, 103, 101, 116, 10]⟩ : ByteArray)).size) = False := eq_false (Nat.not_lt.2 c8)
                try have c8b3 : (9223372036854775807 < x3_1.size + 6 + (strOfNums y206).size + 5) = False := eq_false (by have h_ := c8; simp only [ByteArray.size_append] at h_; have e0_ : (⟨#[71, 69, 84, 32, 47, 114]⟩ : ByteArray).size = 6 := rfl; have e1_ : (⟨#[32, 103, 101, 116, 10]⟩ : ByteArray).size = 5 := rfl; omega)
                have H' := Aside0.mk H
                clear H
                go_wp2_with (first | ((with_reducible refine gate_dst (N := 24) rfl ?_); (try (refine gate_guard (by rfl) ?_; dsimp only)); refine Kd.R_lit (Kd.int .u8) _ 5 ?hg (N := 24) ?hd (xs := ([(wrap64 (97 + (wrap64 (Int.tdiv x12_1 26)))) % 256, (wrap64 (97 + (Int.tmod x12_1 26))) % 256] : List Int)) (inner := [.int .u8 ((wrap64 (97 + (wrap64 (Int.tdiv x12_1 26)))) % 256), .int .u8 ((wrap64 (97 + (Int.tmod x12_1 26))) % 256)]) (ok := fun _ => True) (okp := fun _ => True) ?hr ?hp (fun _ hk => hk) trivial (Below.refl _ _) (Nat.le_refl _) (by simp) ?_; (case hd => rfl); (case hg => rfl); (case hr => first | (go_simp; done) | (go_simp; rfl)); (case hp => exact (Reps.one (show Kd.M (Kd.int .u8) _ _ _ ((wrap64 (97 + (wrap64 (Int.tdiv x12_1 26)))) % 256) [.int .u8 ((wrap64 (97 + (wrap64 (Int.tdiv x12_1 26)))) % 256)] from rfl) (Reps.one (show Kd.M (Kd.int .u8) _ _ _ ((wrap64 (97 + (Int.tmod x12_1 26))) % 256) [.int .u8 ((wrap64 (97 + (Int.tmod x12_1 26))) % 256)] from rfl) (Reps.none _ _)))); intro v207 w9 ho10 hb hg_ hnew_; clear hg_ hnew_; (first | rw [← Ny206.out] at ho10 | (simp only [Int.reduceToNat] at ho10; rw [← Ny206.out] at ho10)); have n0_ := Aside0.mk (Kd.R_lower ho10 (below_size (by repeat (first | (with_reducible first | exact HB.out | apply below_alloc | apply pw_below_drewN | apply below_drew1) | exact HB.out)))); have n1_ := Aside0.mk (below_step (by repeat (first | (with_reducible first | exact HB.out | apply below_alloc | apply pw_below_drewN | apply below_drew1) | exact HB.out)) hb); clear HB; have HO208 := n0_; have HB := n1_; clear n0_ n1_; clear hb ho10; have hcv11 := own_string (P := Tryd.prog) Tryd.underlying35 Tryd.underlying5 Tryd.underlying9 (Kd.own_of_R HO208.out)))
                go_roundg k1
                case measure => have := HK1.out; omega
                case rel => exact ⟨(x3_1 ++ (((⟨#[71, 69, 84, 32, 47, 114]⟩ : ByteArray) ++ (strOfNums y206)) ++ (⟨#[32, 103, 101, 116, 10]⟩ : ByteArray))), (wrap64 (x12_1 + 1)), (by first | rfl | (simp; done) | (simp [*]; done)), (by first | rfl | (simp; done) | (simp [*]; done)), H', ⟨by have := HK1.out; omega⟩, ⟨by repeat (first | (with_reducible first | exact HB.out | apply below_alloc | apply pw_below_drewN | apply below_drew1) | exact HB.out)⟩⟩
              · rw [if_neg c8] at H
                exact absurd H (by simp)
            · rw [if_neg c7] at H
              exact absurd H (by simp)
          · rw [if_neg c6] at H
            exact absurd H (by simp)
        · rw [if_neg c5] at H
          have c5b0 : decide (x12_1 < (Go.bits .and .i64 a0 63)) = false := decide_eq_false c5
          clear c5
          replace H := Option.bind_eq_some_iff.mp H
          obtain ⟨⟨t209, t210⟩, A120, H⟩ := H
          replace H : (if (Go.bits .and .i64 a0 63) > 24 then (if t210 = 2 then (some ((t209.length : Int) == 0)) else (some false)) else (if t210 = 0 then (some ((t209.length : Int) == (Go.bits .and .i64 a0 63))) else (some false))) = some r := H
          have A12 := Aside0.mk A120
          clear A120
          by_cases c13 : (Go.bits .and .i64 a0 63) > 24
          · rw [if_pos c13] at H
            have c13b0 : decide (24 < (Go.bits .and .i64 a0 63)) = true := decide_eq_true c13
            clear c13
            by_cases c14 : t210 = 2
            · rw [if_pos c14] at H
              have c14b0 : (t210 == 2) = true := beq_iff_eq.mpr c14
              have c14b1 : (t210 != 2) = false := bne_eq_false_iff_eq.mpr c14
              clear c14
              obtain rfl := Option.some.inj H
              go_wp2_with (first | ((with_reducible refine gate_callee (f := 17) rfl ?_); refine goesL_ (some 32) rfl rfl Tryd.func17 (by kernel_rfl) rfl #[.string x3_1] rfl (by (try simp only [List.map_toArray, List.map_cons, List.map_nil]); first | done | rfl | (simp only [List.length_drop, List.length_take]; rfl)) ?_; (with_reducible refine (table_Parse.calls k1 x3_1 t209 t210 _ A12.out ?glob54).mono ?_); (case glob54 => exact GlobOK.below HG.out (by repeat (first | (with_reducible first | exact HB.out | apply below_alloc | apply pw_below_drewN | apply below_drew1 | refine below_set ?_ (Aside0.out (by assumption))) | exact HB.out)) rfl); rintro e w15 ⟨v211, rfl, ho0, hb⟩; refine ⟨_, rfl, ?_⟩; have n0_ := Aside0.mk (Kd.R_lower ho0 (below_size (by repeat (first | (with_reducible first | exact HB.out | apply below_alloc | apply pw_below_drewN | apply below_drew1) | exact HB.out)))); have n1_ := Aside0.mk (below_step (by repeat (first | (with_reducible first | exact HB.out | apply below_alloc | apply pw_below_drewN | apply below_drew1) | exact HB.out)) hb); clear HB; have HO212 := n0_; have HB := n1_; clear n0_ n1_; (try clear hb); (try clear hb2); (try clear hk); (try clear hi); (try clear ho0); obtain ⟨Ao16, co16, eo16⟩ := Kd.R_slice HO212.out; subst eo16))
              go_ret
              exact ⟨by first | rfl | (simp [errW_none, errW_some] <;> rfl) | (simp [*, errW_none, errW_some] <;> rfl), by repeat (first | (with_reducible first | exact HB.out | apply below_alloc | apply pw_below_drewN | apply below_drew1) | exact HB.out)⟩
            · rw [if_neg c14] at H
              have c14b0 : (t210 == 2) = false := beq_eq_false_iff_ne.mpr c14
              have c14b1 : (t210 != 2) = true := bne_iff_ne.mpr c14
              obtain rfl := Option.some.inj H
              go_wp2_with (first | ((with_reducible refine gate_callee (f := 17) rfl ?_); refine goesL_ (some 32) rfl rfl Tryd.func17 (by kernel_rfl) rfl #[.string x3_1] rfl (by (try simp only [List.map_toArray, List.map_cons, List.map_nil]); first | done | rfl | (simp only [List.length_drop, List.length_take]; rfl)) ?_; (with_reducible refine (table_Parse.calls k1 x3_1 t209 t210 _ A12.out ?glob55).mono ?_); (case glob55 => exact GlobOK.below HG.out (by repeat (first | (with_reducible first | exact HB.out | apply below_alloc | apply pw_below_drewN | apply below_drew1 | refine below_set ?_ (Aside0.out (by assumption))) | exact HB.out)) rfl); rintro e w17 ⟨v211, rfl, ho0, hb⟩; refine ⟨_, rfl, ?_⟩; have n0_ := Aside0.mk (Kd.R_lower ho0 (below_size (by repeat (first | (with_reducible first | exact HB.out | apply below_alloc | apply pw_below_drewN | apply below_drew1) | exact HB.out)))); have n1_ := Aside0.mk (below_step (by repeat (first | (with_reducible first | exact HB.out | apply below_alloc | apply pw_below_drewN | apply below_drew1) | exact HB.out)) hb); clear HB; have HO212 := n0_; have HB := n1_; clear n0_ n1_; (try clear hb); (try clear hb2); (try clear hk); (try clear hi); (try clear ho0)))
              go_ret
              exact ⟨by first | rfl | (simp [errW_none, errW_some] <;> rfl) | (simp [*, errW_none, errW_some] <;> rfl), by repeat (first | (with_reducible first | exact HB.out | apply below_alloc | apply pw_below_drewN | apply below_drew1) | exact HB.out)⟩
          · rw [if_neg c13] at H
            have c13b0 : decide (24 < (Go.bits .and .i64 a0 63)) = false := decide_eq_false c13
            clear c13
            by_cases c18 : t210 = 0
            · rw [if_pos c18] at H
              have c18b0 : (t210 == 0) = true := beq_iff_eq.mpr c18
              have c18b1 : (t210 != 0) = false := bne_eq_false_iff_eq.mpr c18
              clear c18
              obtain rfl := Option.some.inj H
              go_wp2_with (first | ((with_reducible refine gate_callee (f := 17) rfl ?_); refine goesL_ (some 32) rfl rfl Tryd.func17 (by kernel_rfl) rfl #[.string x3_1] rfl (by (try simp only [List.map_toArray, List.map_cons, List.map_nil]); first | done | rfl | (simp only [List.length_drop, List.length_take]; rfl)) ?_; (with_reducible refine (table_Parse.calls k1 x3_1 t209 t210 _ A12.out ?glob56).mono ?_); (case glob56 => exact GlobOK.below HG.out (by repeat (first | (with_reducible first | exact HB.out | apply below_alloc | apply pw_below_drewN | apply below_drew1 | refine below_set ?_ (Aside0.out (by assumption))) | exact HB.out)) rfl); rintro e w19 ⟨v211, rfl, ho0, hb⟩; refine ⟨_, rfl, ?_⟩; have n0_ := Aside0.mk (Kd.R_lower ho0 (below_size (by repeat (first | (with_reducible first | exact HB.out | apply below_alloc | apply pw_below_drewN | apply below_drew1) | exact HB.out)))); have n1_ := Aside0.mk (below_step (by repeat (first | (with_reducible first | exact HB.out | apply below_alloc | apply pw_below_drewN | apply below_drew1) | exact HB.out)) hb); clear HB; have HO212 := n0_; have HB := n1_; clear n0_ n1_; (try clear hb); (try clear hb2); (try clear hk); (try clear hi); (try clear ho0); obtain ⟨Ao20, co20, eo20⟩ := Kd.R_slice HO212.out; subst eo20))
              go_ret
              exact ⟨by first | rfl | (simp [errW_none, errW_some] <;> rfl) | (simp [*, errW_none, errW_some] <;> rfl), by repeat (first | (with_reducible first | exact HB.out | apply below_alloc | apply pw_below_drewN | apply below_drew1) | exact HB.out)⟩
            · rw [if_neg c18] at H
              have c18b0 : (t210 == 0) = false := beq_eq_false_iff_ne.mpr c18
              have c18b1 : (t210 != 0) = true := bne_iff_ne.mpr c18
              obtain rfl := Option.some.inj H
              go_wp2_with (first | ((with_reducible refine gate_callee (f := 17) rfl ?_); refine goesL_ (some 32) rfl rfl Tryd.func17 (by kernel_rfl) rfl #[.string x3_1] rfl (by (try simp only [List.map_toArray, List.map_cons, List.map_nil]); first | done | rfl | (simp only [List.length_drop, List.length_take]; rfl)) ?_; (with_reducible refine (table_Parse.calls k1 x3_1 t209 t210 _ A12.out ?glob57).mono ?_); (case glob57 => exact GlobOK.below HG.out (by repeat (first | (with_reducible first | exact HB.out | apply below_alloc | apply pw_below_drewN | apply below_drew1 | refine below_set ?_ (Aside0.out (by assumption))) | exact HB.out)) rfl); rintro e w21 ⟨v211, rfl, ho0, hb⟩; refine ⟨_, rfl, ?_⟩; have n0_ := Aside0.mk (Kd.R_lower ho0 (below_size (by repeat (first | (with_reducible first | exact HB.out | apply below_alloc | apply pw_below_drewN | apply below_drew1) | exact HB.out)))); have n1_ := Aside0.mk (below_step (by repeat (first | (with_reducible first | exact HB.out | apply below_alloc | apply pw_below_drewN | apply below_drew1) | exact HB.out)) hb); clear HB; have HO212 := n0_; have HB := n1_; clear n0_ n1_; (try clear hb); (try clear hb2); (try clear hk); (try clear hi); (try clear ho0)))
              go_ret
              exact ⟨by first | rfl | (simp [errW_none, errW_some] <;> rfl) | (simp [*, errW_none, errW_some] <;> rfl), by repeat (first | (with_reducible first | exact HB.out | apply below_alloc | apply pw_below_drewN | apply below_drew1) | exact HB.out)⟩
  · replace c3 := Bool.eq_false_iff.mpr c3
    subst c3
    have H1 : (some false) = some r := by rw [if_neg (show ¬ (false = true) by decide)] at H; exact H
    clear H
    have H := H1
    clear H1
    obtain rfl := Option.some.inj H
    go_enter Tryd.func4, Tryd.ntmps4
    go_wp2_with (first | ((with_reducible refine gate_callee (f := 9) rfl ?_); refine goesL_ (some 7) rfl rfl Tryd.func9 (by kernel_rfl) rfl #[] rfl (by (try simp only [List.map_toArray, List.map_cons, List.map_nil]); first | done | rfl | (simp only [List.length_drop, List.length_take]; rfl)) ?_; (with_reducible refine (crossroadlaw07_fit.calls k  false _ A2.out ?glob58).mono ?_); (case glob58 => exact GlobOK.below HG.out (by repeat (first | (with_reducible first | exact HB.out | apply below_alloc | apply pw_below_drewN | apply below_drew1 | refine below_set ?_ (Aside0.out (by assumption))) | exact HB.out)) rfl); rintro e w22 ⟨rfl, hb⟩; refine ⟨_, rfl, ?_⟩; have n0_ := Aside0.mk (below_step (by repeat (first | (with_reducible first | exact HB.out | apply below_alloc | apply pw_below_drewN | apply below_drew1) | exact HB.out)) hb); clear HB; have HB := n0_; clear n0_; (try clear hb); (try clear hb2); (try clear hk); (try clear hi)))
    go_ret
    exact ⟨by first | rfl | (simp [errW_none, errW_some] <;> rfl) | (simp [*, errW_none, errW_some] <;> rfl), by repeat (first | (with_reducible first | exact HB.out | apply below_alloc | apply pw_below_drewN | apply below_drew1) | exact HB.out)⟩

/-- THE ONE PURE STATEMENT of crossroadlaw07_TableMany: yours. -/
def crossroadlaw07_TableMany.Pure : Prop := ∀ (a0 : Int), (Lit.int .i64 a0).wf = true → ∃ k, crossroadlaw07_TableMany.f k a0 = some true
theorem crossroadlaw07_TableMany.walk (P : crossroadlaw07_TableMany.Pure) (a0 : Int) (w : World) (w0 : (Lit.int .i64 a0).wf = true) (hG : GlobOK w) :
    Calls Tryd.prog 4 #[.int .i64 a0] w fun e w' => e = .returned (.bool true) ∧ Below w.heap.size w w' := by
  obtain ⟨k, h⟩ := P a0 w0
  refine (crossroadlaw07_TableMany.calls k a0 true w h hG).mono ?_
  rintro e w' ⟨rfl, hd⟩
  exact ⟨rfl, hd⟩

end Go.Proofs.YtidkhbkndbnnjaaDoor.X

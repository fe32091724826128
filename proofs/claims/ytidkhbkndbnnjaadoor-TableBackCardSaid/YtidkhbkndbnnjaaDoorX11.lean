-- Written for this claim by a program of this session (wip/xprint.py). Not trusted: Lean checks it.
import Derived.Test.YtidkhbkndbnnjaaDoorX0
import Derived.Test.YtidkhbkndbnnjaaDoorX7
import Derived.Test.YtidkhbkndbnnjaaDoorX8
import Derived.Test.YtidkhbkndbnnjaaDoorX9
import Derived.Test.YtidkhbkndbnnjaaDoorX10
namespace Go.Proofs.YtidkhbkndbnnjaaDoor.X
open Go.RowKit Go.Proofs.YtidkhbkndbnnjaaDoorW.PrintWords Go.Proofs.YtidkhbkndbnnjaaDoorW.PrintLast Go.Proofs.YtidkhbkndbnnjaaDoorW.PrintMore
attribute [local go_sem] max2_int min2_int max_two min_two max_three min_three max_four min_four   -- for this text's walks alone
set_option linter.unusedVariables false
set_option linter.unusedSimpArgs false

/-! ### table_Check: function 16 -/
mutual
def table_Check.l0 : Nat → List (S27) → List ((ByteArray × ByteArray) × Bool) → List (S27) → Int → Int → Option (Int)
  | 0, _, _, _, _, _ => none
  | k + 1, x0, x3, x12, x13, x14 => if x14 < x13 then (if 0 ≤ x14 then (if x14 < (x12.length : Int) then ((table_Right.f k ((rd_T27 x12 x14).f0) ((rd_T27 x12 x14).f1) ((rd_T27 x12 x14).f2)).bind fun t132 => (if t132 = true then (table_Check.l0 k x0 x3 x12 x13 (wrap64 (x14 + 1))) else (some 1))) else (none)) else (none)) else (if (x0.length : Int) > 24 then (some 2) else (table_Check.l1 k x3 x0 (x0.length : Int) 0))
def table_Check.l1 : Nat → List ((ByteArray × ByteArray) × Bool) → List (S27) → Int → Int → Option (Int)
  | 0, _, _, _, _ => none
  | k + 1, x3, x25, x26, x27 => if x27 < x26 then (if 0 ≤ x27 then (if x27 < (x25.length : Int) then ((path_Pattern.f k ((rd_T27 x25 x27).f1)).bind fun bt135 => ((path_Shape.f k bt135.1).bind fun t139 => (if ((rd_T27 x25 x27).f0).size ≤ 9223372036854775807 then (if t139.size ≤ 9223372036854775807 then (if mapGetP x3 (((rd_T27 x25 x27).f0, t139) : ByteArray × ByteArray) = true then (some 3) else (if x3.length < 9223372036854775807 then (table_Check.l1 k (((((rd_T27 x25 x27).f0, t139) : ByteArray × ByteArray), true) :: x3) x25 x26 (wrap64 (x27 + 1))) else (none))) else (none)) else (none)))) else (none)) else (none)) else (some 0)
end
def table_Check.f (k : Nat) (l0 : List (S27)) : Option (Int) := table_Check.l0 k l0 ([] : List ((ByteArray × ByteArray) × Bool)) l0 (l0.length : Int) 0
theorem table_Check.mono_l : ∀ k, (∀ y0 y1 y2 y3 y4, LeO (table_Check.l0 k y0 y1 y2 y3 y4) (table_Check.l0 (k + 1) y0 y1 y2 y3 y4)) ∧ (∀ y0 y1 y2 y3, LeO (table_Check.l1 k y0 y1 y2 y3) (table_Check.l1 (k + 1) y0 y1 y2 y3))
  | 0 => ⟨fun _ _ _ _ _ r h => by simp [table_Check.l0] at h, fun _ _ _ _ r h => by simp [table_Check.l1] at h⟩
  | k + 1 => by
    obtain ⟨ih0, ih1⟩ := table_Check.mono_l k
    refine ⟨?_, ?_⟩
    · intro y0 y1 y2 y3 y4
      unfold table_Check.l0
      repeat' first
      | (with_reducible exact ih0 _ _ _ _ _)
      | (with_reducible exact ih1 _ _ _ _)
      | (with_reducible exact path_Pattern.mono _ _)
      | (with_reducible exact path_Shape.mono _ _)
      | (with_reducible exact table_Right.mono _ _ _ _)
      | (with_reducible exact LeO.refl _)
      | (with_reducible exact LeO.none _)
      | (with_reducible refine LeO.ite ?_ ?_)
      | (with_reducible refine LeO.bind ?_ (fun _ => ?_))
      | exact ih0 _ _ _ _ _
      | exact ih1 _ _ _ _
      | exact path_Pattern.mono _ _
      | exact path_Shape.mono _ _
      | exact table_Right.mono _ _ _ _
      | exact LeO.none _
      | refine LeO.ite ?_ ?_
      | refine LeO.bind ?_ (fun _ => ?_)
    · intro y0 y1 y2 y3
      unfold table_Check.l1
      repeat' first
      | (with_reducible exact ih0 _ _ _ _ _)
      | (with_reducible exact ih1 _ _ _ _)
      | (with_reducible exact path_Pattern.mono _ _)
      | (with_reducible exact path_Shape.mono _ _)
      | (with_reducible exact table_Right.mono _ _ _ _)
      | (with_reducible exact LeO.refl _)
      | (with_reducible exact LeO.none _)
      | (with_reducible refine LeO.ite ?_ ?_)
      | (with_reducible refine LeO.bind ?_ (fun _ => ?_))
      | exact ih0 _ _ _ _ _
      | exact ih1 _ _ _ _
      | exact path_Pattern.mono _ _
      | exact path_Shape.mono _ _
      | exact table_Right.mono _ _ _ _
      | exact LeO.none _
      | refine LeO.ite ?_ ?_
      | refine LeO.bind ?_ (fun _ => ?_)
theorem table_Check.mono : ∀ a0 k, LeO (table_Check.f k a0) (table_Check.f (k + 1) a0) := by
  intro a0 k
  obtain ⟨ih0, ih1⟩ := table_Check.mono_l k
  unfold table_Check.f
  repeat' first
      | (with_reducible exact ih0 _ _ _ _ _)
      | (with_reducible exact ih1 _ _ _ _)
      | (with_reducible exact path_Pattern.mono _ _)
      | (with_reducible exact path_Shape.mono _ _)
      | (with_reducible exact table_Right.mono _ _ _ _)
      | (with_reducible exact LeO.refl _)
      | (with_reducible exact LeO.none _)
      | (with_reducible refine LeO.ite ?_ ?_)
      | (with_reducible refine LeO.bind ?_ (fun _ => ?_))
      | exact ih0 _ _ _ _ _
      | exact ih1 _ _ _ _
      | exact path_Pattern.mono _ _
      | exact path_Shape.mono _ _
      | exact table_Right.mono _ _ _ _
      | exact LeO.none _
      | refine LeO.ite ?_ ?_
      | refine LeO.bind ?_ (fun _ => ?_)
set_option maxHeartbeats 8000000 in
set_option maxRecDepth 100000 in
theorem table_Check.calls (k : Nat) (A0 : Option Addr) (c0 : Nat) (l0 : List (S27)) (r : Int) (w : World) (hr0 : Kd.C k27 w A0 l0.length l0) (hc0 : l0.length ≤ c0) (h : table_Check.f k l0 = some r) (hG : GlobOK w) :
    Calls Tryd.prog 16 #[.slice A0 l0.length c0] w fun e w' => e = .returned (.int .i64 r) ∧ Below w.heap.size w w' := by
  have hu27 := Tryd.underlying27
  have hu52 := Tryd.underlying52
  have HR0 := Aside0.mk hr0
  have HC0 := Aside0.mk hc0
  clear hr0 hc0
  have HG := Aside0.mk hG
  clear hG
  have HB := Aside0.mk (Below.refl w.heap.size w)
  have H : (table_Check.l0 k l0 ([] : List ((ByteArray × ByteArray) × Bool)) l0 (l0.length : Int) 0) = some r := h
  clear h
  have H' := Aside0.mk H
  clear H
  go_enter Tryd.func16, Tryd.ntmps16
  go_wp2_with (first | ((with_reducible refine gate_dst (N := 11) rfl ?_); refine wpList_makeMap_map (base := w.heap.size) K50 E50 rfl 50 rfl (below_size (by repeat (first | (with_reducible first | exact HB.out | apply below_alloc | apply pw_below_drewN | apply below_drew1 | refine below_set ?_ (Aside0.out (by assumption))) | exact HB.out))) ?_; intro VM wM_ hm_ hb_; have HM := Aside0.mk hm_; have nB_ := Aside0.mk (below_step (by repeat (first | (with_reducible first | exact HB.out | apply below_alloc | apply pw_below_drewN | apply below_drew1 | refine below_set ?_ (Aside0.out (by assumption))) | exact HB.out)) hb_); clear HB; have HB := nB_; clear nB_ hm_; clear hb_))
  go_loopg [14] k (fun kq v14 w' => ∃ (x14_1 : Int), v14 = .int .i64 x14_1 ∧ Aside0 (table_Check.l0 kq l0 ([] : List ((ByteArray × ByteArray) × Bool)) l0 (l0.length : Int) x14_1 = some r) ∧ Aside0 (kq ≤ k) ∧ Aside0 (MapOwn K50 E50 w' w.heap.size VM ([] : List ((ByteArray × ByteArray) × Bool))) ∧ Aside0 (Below w.heap.size w w'))
  case atStart => exact ⟨(0), (by first | rfl | (simp; done) | (simp [*]; done)), H', ⟨Nat.le_refl _⟩, ⟨by (with_reducible repeat (first | apply MapOwn.alloc | apply MapOwn.drewN | apply MapOwn.drew | apply MapOwn.setAny)); exact HM.out⟩, ⟨by repeat (first | (with_reducible first | exact HB.out | apply below_alloc | apply pw_below_drewN | apply below_drew1) | exact HB.out)⟩⟩
  case round =>
    clear H'
    try clear c1
    obtain ⟨x14_1, rfl, HA, HK1, HM, HB⟩ := hrel
    cases gk with
    | zero => exact absurd HA.out (by simp [table_Check.l0])
    | succ k1 =>
      have H := HA.out
      clear HA
      simp only [table_Check.l0] at H
      by_cases c2 : x14_1 < (l0.length : Int)
      · rw [if_pos c2] at H
        have c2b0 : decide (x14_1 < (l0.length : Int)) = true := decide_eq_true c2
        clear c2
        by_cases c3 : 0 ≤ x14_1
        · rw [if_pos c3] at H
          have c3b0 : decide (0 ≤ x14_1) = true := decide_eq_true c3
          clear c3
          by_cases c4 : x14_1 < (l0.length : Int)
          · rw [if_pos c4] at H
            have c4b0 : decide (x14_1 < (l0.length : Int)) = true := decide_eq_true c4
            clear c4
            replace H := Option.bind_eq_some_iff.mp H
            obtain ⟨t132, A50, H⟩ := H
            replace H : (if t132 = true then (table_Check.l0 k1 l0 ([] : List ((ByteArray × ByteArray) × Bool)) l0 (l0.length : Int) (wrap64 (x14_1 + 1))) else (some 1)) = some r := H
            have A5 := Aside0.mk A50
            clear A50
            by_cases c6 : t132 = true
            · subst c6
              have H1 : (table_Check.l0 k1 l0 ([] : List ((ByteArray × ByteArray) × Bool)) l0 (l0.length : Int) (wrap64 (x14_1 + 1))) = some r := by rw [if_pos rfl] at H; exact H
              clear H
              have H := H1
              clear H1
              have H' := Aside0.mk H
              clear H
              have p130 : 0 ≤ (x14_1 : Int) := of_decide_eq_true (by first | (with_reducible assumption) | assumption)
              have q130 : x14_1 < (l0.length : Int) := of_decide_eq_true (by first | (with_reducible assumption) | assumption)
              obtain ⟨ad130, e130, hx130_0, hx130_1, hx130_2⟩ := at_T27 HR0.out x14_1 p130 q130
              cases e130
              replace hx130_0 := (HB.out.cell (World.block_lt_of_cell? w _ hx130_0)).trans hx130_0
              replace hx130_1 := (HB.out.cell (World.block_lt_of_cell? w _ hx130_1)).trans hx130_1
              replace hx130_2 := (HB.out.cell (World.block_lt_of_cell? w _ hx130_2)).trans hx130_2
              replace p130 := eq_true p130
              replace q130 := eq_true q130
              go_wp2_with (first | (at_lookup; (try (refine gate_guard (by rfl) ?_; dsimp only)); refine wpList_lookup_pair_bool (base := w.heap.size) pk50 z50 _ Tryd.underlying4 rfl _ _ 50 rfl Tryd.underlying50 _ _ (by first | assumption | exact of_decide_eq_true (by first | (with_reducible assumption) | assumption)) (by first | assumption | exact of_decide_eq_true (by first | (with_reducible assumption) | assumption)) rfl rfl (by (with_reducible repeat (first | apply MapOwn.alloc | apply MapOwn.drewN | apply MapOwn.drew | apply MapOwn.setAny)); exact HM.out) ?_) | (at_mapUpdate; (try (refine gate_guard (by rfl) ?_; dsimp only)); refine wpList_mapUpdate_pair_bool (base := w.heap.size) pk50 z50 Tryd.underlying4 _ rfl _ _ _ 50 rfl Tryd.underlying50 _ _ _ (by first | assumption | exact of_decide_eq_true (by first | (with_reducible assumption) | assumption)) (by first | assumption | exact of_decide_eq_true (by first | (with_reducible assumption) | assumption)) rfl rfl rfl (by (with_reducible repeat (first | apply MapOwn.alloc | apply MapOwn.drewN | apply MapOwn.drew | apply MapOwn.setAny)); exact HM.out) (by first | assumption | exact of_decide_eq_true (by first | (with_reducible assumption) | assumption)) ?_; intro wM_ hm_ hg_; have nB_ := Aside0.mk (below_mapped (by repeat (first | (with_reducible first | exact HB.out | apply below_alloc | apply pw_below_drewN | apply below_drew1 | refine below_set ?_ (Aside0.out (by assumption))) | exact HB.out)) (by (with_reducible repeat (first | apply MapOwn.alloc | apply MapOwn.drewN | apply MapOwn.drew | apply MapOwn.setAny)); exact HM.out : MapOwn K50 E50 _ w.heap.size _ _) (Nat.le_refl _) hg_); clear HB HM ; have HM := Aside0.mk hm_; have HB := nB_; clear nB_ hm_ hg_) | ((with_reducible refine gate_dst (N := 5) rfl ?_); refine box_event ?hg (N := 5) ?hd (cs := #[.string (⟨#[]⟩ : ByteArray), .string (⟨#[]⟩ : ByteArray), .string (⟨#[]⟩ : ByteArray)]) (t := 27) ?hr ?_; (case hd => rfl); (case hg => rfl); (case hr => first | (go_simp; done) | (go_simp; rfl)); intro gb131 hg w7 hbox hb; (try (have nM_ := Aside0.mk (MapOwn.below (K := K50) (E := E50) (by (with_reducible repeat (first | apply MapOwn.alloc | apply MapOwn.drewN | apply MapOwn.drew | apply MapOwn.setAny)); exact HM.out) hb); clear HM; have HM := nM_; clear nM_)); have n0_ := Aside0.mk (below_step (by repeat (first | (with_reducible first | exact HB.out | apply below_alloc | apply pw_below_drewN | apply below_drew1) | exact HB.out)) hb); have n1_ := Aside0.mk (hbox); have n2_ := Aside0.mk ((by rw [hg]; exact (below_size (by repeat (first | (with_reducible first | exact HB.out | apply below_alloc | apply pw_below_drewN | apply below_drew1) | exact HB.out))) : w.heap.size ≤ gb131)); have n3_ := Aside0.mk ((by rw [hg]; exact (below_size (by repeat (first | (with_reducible first | exact HB.out | apply below_alloc | apply pw_below_drewN | apply below_drew1) | exact HB.out))) : w.heap.size ≤ gb131)); clear HB; have HB := n0_; have BK131 := n1_; have GW131 := n2_; have GE131 := n3_; clear n0_ n1_ n2_ n3_; clear hb hbox hg; have hcz8_0 : w7.cell? ⟨gb131, 0, none⟩ = some (.string (⟨#[]⟩ : ByteArray)) := (blk_cell BK131.out 0).trans rfl; have hcz8_1 : w7.cell? ⟨gb131, 1, none⟩ = some (.string (⟨#[]⟩ : ByteArray)) := (blk_cell BK131.out 1).trans rfl; have hcz8_2 : w7.cell? ⟨gb131, 2, none⟩ = some (.string (⟨#[]⟩ : ByteArray)) := (blk_cell BK131.out 2).trans rfl; have hfz8_0 := blk_frozen BK131.out 0; have hfz8_1 := blk_frozen BK131.out 1; have hfz8_2 := blk_frozen BK131.out 2) | ((with_reducible refine gate_callee (f := 14) rfl ?_); refine goesL_ (some 19) rfl rfl Tryd.func14 (by kernel_rfl) rfl #[.agg #[.string ((rd_T27 l0 x14_1).f0), .string ((rd_T27 l0 x14_1).f1), .string ((rd_T27 l0 x14_1).f2)]] rfl (by (try simp only [List.map_toArray, List.map_cons, List.map_nil]); first | done | rfl | (simp only [List.length_drop, List.length_take]; rfl)) ?_; (with_reducible refine (table_Right.calls k1 ((rd_T27 l0 x14_1).f0) ((rd_T27 l0 x14_1).f1) ((rd_T27 l0 x14_1).f2) true _ A5.out ?glob2).mono ?_); (case glob2 => exact GlobOK.below HG.out (by repeat (first | (with_reducible first | exact HB.out | apply below_alloc | apply pw_below_drewN | apply below_drew1 | refine below_set ?_ (Aside0.out (by assumption))) | exact HB.out)) rfl); rintro e w9 ⟨rfl, hb⟩; (try (have nM_ := Aside0.mk (MapOwn.below (K := K50) (E := E50) (by (with_reducible repeat (first | apply MapOwn.alloc | apply MapOwn.drewN | apply MapOwn.drew | apply MapOwn.setAny)); exact HM.out) hb); clear HM; have HM := nM_; clear nM_)); refine ⟨_, rfl, ?_⟩; have n0_ := Aside0.mk (blk_below (g := gb131) (o := .cells #[.string ((rd_T27 l0 x14_1).f0), .string ((rd_T27 l0 x14_1).f1), .string ((rd_T27 l0 x14_1).f2)] 27 (0, 0)) (by (with_reducible repeat (first | refine blk_drewN ?_ _ | refine blk_drew ?_ | refine blk_alloc ?_ _)); refine blk_put (cs := #[.string ((rd_T27 l0 x14_1).f0), .string ((rd_T27 l0 x14_1).f1), .string (⟨#[]⟩ : ByteArray)]) ?_ 2 _ rfl; (with_reducible repeat (first | refine blk_drewN ?_ _ | refine blk_drew ?_ | refine blk_alloc ?_ _)); refine blk_put (cs := #[.string ((rd_T27 l0 x14_1).f0), .string (⟨#[]⟩ : ByteArray), .string (⟨#[]⟩ : ByteArray)]) ?_ 1 _ rfl; (with_reducible repeat (first | refine blk_drewN ?_ _ | refine blk_drew ?_ | refine blk_alloc ?_ _)); refine blk_put (cs := #[.string (⟨#[]⟩ : ByteArray), .string (⟨#[]⟩ : ByteArray), .string (⟨#[]⟩ : ByteArray)]) ?_ 0 _ rfl; (with_reducible repeat (first | refine blk_drewN ?_ _ | refine blk_drew ?_ | refine blk_alloc ?_ _)); exact BK131.out) hb); have n1_ := Aside0.mk (below_step (by repeat (first | (with_reducible first | exact HB.out | apply below_alloc | apply pw_below_drewN | apply below_drew1 | refine below_set ?_ GE131.out) | exact HB.out)) hb); clear BK131; clear HB; have BK131 := n0_; have HB := n1_; clear n0_ n1_; (try clear hb); (try clear hb2); (try clear hk); (try clear hi)))
              go_roundg k1
              case measure => have := HK1.out; omega
              case rel => exact ⟨(wrap64 (x14_1 + 1)), (by first | rfl | (simp; done) | (simp [*]; done)), H', ⟨by have := HK1.out; omega⟩, ⟨by (with_reducible repeat (first | apply MapOwn.alloc | apply MapOwn.drewN | apply MapOwn.drew | apply MapOwn.setAny)); exact HM.out⟩, ⟨by repeat (first | (with_reducible first | exact HB.out | apply below_alloc | apply pw_below_drewN | apply below_drew1 | refine below_set ?_ GE131.out) | exact HB.out)⟩⟩
            · replace c6 := Bool.eq_false_iff.mpr c6
              subst c6
              have H1 : (some 1) = some r := by rw [if_neg (show ¬ (false = true) by decide)] at H; exact H
              clear H
              have H := H1
              clear H1
              obtain rfl := Option.some.inj H
              have p130 : 0 ≤ (x14_1 : Int) := of_decide_eq_true (by first | (with_reducible assumption) | assumption)
              have q130 : x14_1 < (l0.length : Int) := of_decide_eq_true (by first | (with_reducible assumption) | assumption)
              obtain ⟨ad130, e130, hx130_0, hx130_1, hx130_2⟩ := at_T27 HR0.out x14_1 p130 q130
              cases e130
              replace hx130_0 := (HB.out.cell (World.block_lt_of_cell? w _ hx130_0)).trans hx130_0
              replace hx130_1 := (HB.out.cell (World.block_lt_of_cell? w _ hx130_1)).trans hx130_1
              replace hx130_2 := (HB.out.cell (World.block_lt_of_cell? w _ hx130_2)).trans hx130_2
              replace p130 := eq_true p130
              replace q130 := eq_true q130
              go_wp2_with (first | (at_lookup; (try (refine gate_guard (by rfl) ?_; dsimp only)); refine wpList_lookup_pair_bool (base := w.heap.size) pk50 z50 _ Tryd.underlying4 rfl _ _ 50 rfl Tryd.underlying50 _ _ (by first | assumption | exact of_decide_eq_true (by first | (with_reducible assumption) | assumption)) (by first | assumption | exact of_decide_eq_true (by first | (with_reducible assumption) | assumption)) rfl rfl (by (with_reducible repeat (first | apply MapOwn.alloc | apply MapOwn.drewN | apply MapOwn.drew | apply MapOwn.setAny)); exact HM.out) ?_) | (at_mapUpdate; (try (refine gate_guard (by rfl) ?_; dsimp only)); refine wpList_mapUpdate_pair_bool (base := w.heap.size) pk50 z50 Tryd.underlying4 _ rfl _ _ _ 50 rfl Tryd.underlying50 _ _ _ (by first | assumption | exact of_decide_eq_true (by first | (with_reducible assumption) | assumption)) (by first | assumption | exact of_decide_eq_true (by first | (with_reducible assumption) | assumption)) rfl rfl rfl (by (with_reducible repeat (first | apply MapOwn.alloc | apply MapOwn.drewN | apply MapOwn.drew | apply MapOwn.setAny)); exact HM.out) (by first | assumption | exact of_decide_eq_true (by first | (with_reducible assumption) | assumption)) ?_; intro wM_ hm_ hg_; have nB_ := Aside0.mk (below_mapped (by repeat (first | (with_reducible first | exact HB.out | apply below_alloc | apply pw_below_drewN | apply below_drew1 | refine below_set ?_ (Aside0.out (by assumption))) | exact HB.out)) (by (with_reducible repeat (first | apply MapOwn.alloc | apply MapOwn.drewN | apply MapOwn.drew | apply MapOwn.setAny)); exact HM.out : MapOwn K50 E50 _ w.heap.size _ _) (Nat.le_refl _) hg_); clear HB HM ; have HM := Aside0.mk hm_; have HB := nB_; clear nB_ hm_ hg_) | ((with_reducible refine gate_dst (N := 5) rfl ?_); refine box_event ?hg (N := 5) ?hd (cs := #[.string (⟨#[]⟩ : ByteArray), .string (⟨#[]⟩ : ByteArray), .string (⟨#[]⟩ : ByteArray)]) (t := 27) ?hr ?_; (case hd => rfl); (case hg => rfl); (case hr => first | (go_simp; done) | (go_simp; rfl)); intro gb131 hg w10 hbox hb; (try (have nM_ := Aside0.mk (MapOwn.below (K := K50) (E := E50) (by (with_reducible repeat (first | apply MapOwn.alloc | apply MapOwn.drewN | apply MapOwn.drew | apply MapOwn.setAny)); exact HM.out) hb); clear HM; have HM := nM_; clear nM_)); have n0_ := Aside0.mk (below_step (by repeat (first | (with_reducible first | exact HB.out | apply below_alloc | apply pw_below_drewN | apply below_drew1) | exact HB.out)) hb); have n1_ := Aside0.mk (hbox); have n2_ := Aside0.mk ((by rw [hg]; exact (below_size (by repeat (first | (with_reducible first | exact HB.out | apply below_alloc | apply pw_below_drewN | apply below_drew1) | exact HB.out))) : w.heap.size ≤ gb131)); have n3_ := Aside0.mk ((by rw [hg]; exact (below_size (by repeat (first | (with_reducible first | exact HB.out | apply below_alloc | apply pw_below_drewN | apply below_drew1) | exact HB.out))) : w.heap.size ≤ gb131)); clear HB; have HB := n0_; have BK131 := n1_; have GW131 := n2_; have GE131 := n3_; clear n0_ n1_ n2_ n3_; clear hb hbox hg; have hcz11_0 : w10.cell? ⟨gb131, 0, none⟩ = some (.string (⟨#[]⟩ : ByteArray)) := (blk_cell BK131.out 0).trans rfl; have hcz11_1 : w10.cell? ⟨gb131, 1, none⟩ = some (.string (⟨#[]⟩ : ByteArray)) := (blk_cell BK131.out 1).trans rfl; have hcz11_2 : w10.cell? ⟨gb131, 2, none⟩ = some (.string (⟨#[]⟩ : ByteArray)) := (blk_cell BK131.out 2).trans rfl; have hfz11_0 := blk_frozen BK131.out 0; have hfz11_1 := blk_frozen BK131.out 1; have hfz11_2 := blk_frozen BK131.out 2) | ((with_reducible refine gate_callee (f := 14) rfl ?_); refine goesL_ (some 19) rfl rfl Tryd.func14 (by kernel_rfl) rfl #[.agg #[.string ((rd_T27 l0 x14_1).f0), .string ((rd_T27 l0 x14_1).f1), .string ((rd_T27 l0 x14_1).f2)]] rfl (by (try simp only [List.map_toArray, List.map_cons, List.map_nil]); first | done | rfl | (simp only [List.length_drop, List.length_take]; rfl)) ?_; (with_reducible refine (table_Right.calls k1 ((rd_T27 l0 x14_1).f0) ((rd_T27 l0 x14_1).f1) ((rd_T27 l0 x14_1).f2) false _ A5.out ?glob3).mono ?_); (case glob3 => exact GlobOK.below HG.out (by repeat (first | (with_reducible first | exact HB.out | apply below_alloc | apply pw_below_drewN | apply below_drew1 | refine below_set ?_ (Aside0.out (by assumption))) | exact HB.out)) rfl); rintro e w12 ⟨rfl, hb⟩; (try (have nM_ := Aside0.mk (MapOwn.below (K := K50) (E := E50) (by (with_reducible repeat (first | apply MapOwn.alloc | apply MapOwn.drewN | apply MapOwn.drew | apply MapOwn.setAny)); exact HM.out) hb); clear HM; have HM := nM_; clear nM_)); refine ⟨_, rfl, ?_⟩; have n0_ := Aside0.mk (blk_below (g := gb131) (o := .cells #[.string ((rd_T27 l0 x14_1).f0), .string ((rd_T27 l0 x14_1).f1), .string ((rd_T27 l0 x14_1).f2)] 27 (0, 0)) (by (with_reducible repeat (first | refine blk_drewN ?_ _ | refine blk_drew ?_ | refine blk_alloc ?_ _)); refine blk_put (cs := #[.string ((rd_T27 l0 x14_1).f0), .string ((rd_T27 l0 x14_1).f1), .string (⟨#[]⟩ : ByteArray)]) ?_ 2 _ rfl; (with_reducible repeat (first | refine blk_drewN ?_ _ | refine blk_drew ?_ | refine blk_alloc ?_ _)); refine blk_put (cs := #[.string ((rd_T27 l0 x14_1).f0), .string (⟨#[]⟩ : ByteArray), .string (⟨#[]⟩ : ByteArray)]) ?_ 1 _ rfl; (with_reducible repeat (first | refine blk_drewN ?_ _ | refine blk_drew ?_ | refine blk_alloc ?_ _)); refine blk_put (cs := #[.string (⟨#[]⟩ : ByteArray), .string (⟨#[]⟩ : ByteArray), .string (⟨#[]⟩ : ByteArray)]) ?_ 0 _ rfl; (with_reducible repeat (first | refine blk_drewN ?_ _ | refine blk_drew ?_ | refine blk_alloc ?_ _)); exact BK131.out) hb); have n1_ := Aside0.mk (below_step (by repeat (first | (with_reducible first | exact HB.out | apply below_alloc | apply pw_below_drewN | apply below_drew1 | refine below_set ?_ GE131.out) | exact HB.out)) hb); clear BK131; clear HB; have BK131 := n0_; have HB := n1_; clear n0_ n1_; (try clear hb); (try clear hb2); (try clear hk); (try clear hi)))
              go_ret
              exact ⟨by first | rfl | (simp [errW_none, errW_some] <;> rfl) | (simp [*, errW_none, errW_some] <;> rfl), by repeat (first | (with_reducible first | exact HB.out | apply below_alloc | apply pw_below_drewN | apply below_drew1 | refine below_set ?_ GE131.out) | exact HB.out)⟩
          · rw [if_neg c4] at H
            exact absurd H (by simp)
        · rw [if_neg c3] at H
          exact absurd H (by simp)
      · rw [if_neg c2] at H
        have c2b0 : decide (x14_1 < (l0.length : Int)) = false := decide_eq_false c2
        clear c2
        by_cases c13 : (l0.length : Int) > 24
        · rw [if_pos c13] at H
          have c13b0 : decide (24 < (l0.length : Int)) = true := decide_eq_true c13
          have c13b1 : decide (24 < l0.length) = true := decide_eq_true (by omega)
          clear c13
          obtain rfl := Option.some.inj H
          go_wp2_with (first | (at_lookup; (try (refine gate_guard (by rfl) ?_; dsimp only)); refine wpList_lookup_pair_bool (base := w.heap.size) pk50 z50 _ Tryd.underlying4 rfl _ _ 50 rfl Tryd.underlying50 _ _ (by first | assumption | exact of_decide_eq_true (by first | (with_reducible assumption) | assumption)) (by first | assumption | exact of_decide_eq_true (by first | (with_reducible assumption) | assumption)) rfl rfl (by (with_reducible repeat (first | apply MapOwn.alloc | apply MapOwn.drewN | apply MapOwn.drew | apply MapOwn.setAny)); exact HM.out) ?_) | (at_mapUpdate; (try (refine gate_guard (by rfl) ?_; dsimp only)); refine wpList_mapUpdate_pair_bool (base := w.heap.size) pk50 z50 Tryd.underlying4 _ rfl _ _ _ 50 rfl Tryd.underlying50 _ _ _ (by first | assumption | exact of_decide_eq_true (by first | (with_reducible assumption) | assumption)) (by first | assumption | exact of_decide_eq_true (by first | (with_reducible assumption) | assumption)) rfl rfl rfl (by (with_reducible repeat (first | apply MapOwn.alloc | apply MapOwn.drewN | apply MapOwn.drew | apply MapOwn.setAny)); exact HM.out) (by first | assumption | exact of_decide_eq_true (by first | (with_reducible assumption) | assumption)) ?_; intro wM_ hm_ hg_; have nB_ := Aside0.mk (below_mapped (by repeat (first | (with_reducible first | exact HB.out | apply below_alloc | apply pw_below_drewN | apply below_drew1 | refine below_set ?_ (Aside0.out (by assumption))) | exact HB.out)) (by (with_reducible repeat (first | apply MapOwn.alloc | apply MapOwn.drewN | apply MapOwn.drew | apply MapOwn.setAny)); exact HM.out : MapOwn K50 E50 _ w.heap.size _ _) (Nat.le_refl _) hg_); clear HB HM ; have HM := Aside0.mk hm_; have HB := nB_; clear nB_ hm_ hg_))
          go_ret
          exact ⟨by first | rfl | (simp [errW_none, errW_some] <;> rfl) | (simp [*, errW_none, errW_some] <;> rfl), by repeat (first | (with_reducible first | exact HB.out | apply below_alloc | apply pw_below_drewN | apply below_drew1) | exact HB.out)⟩
        · rw [if_neg c13] at H
          have c13b0 : decide (24 < (l0.length : Int)) = false := decide_eq_false c13
          have c13b1 : decide (24 < l0.length) = false := decide_eq_false (by omega)
          clear c13
          have H' := Aside0.mk H
          clear H
          go_wp2_with (first | (at_lookup; (try (refine gate_guard (by rfl) ?_; dsimp only)); refine wpList_lookup_pair_bool (base := w.heap.size) pk50 z50 _ Tryd.underlying4 rfl _ _ 50 rfl Tryd.underlying50 _ _ (by first | assumption | exact of_decide_eq_true (by first | (with_reducible assumption) | assumption)) (by first | assumption | exact of_decide_eq_true (by first | (with_reducible assumption) | assumption)) rfl rfl (by (with_reducible repeat (first | apply MapOwn.alloc | apply MapOwn.drewN | apply MapOwn.drew | apply MapOwn.setAny)); exact HM.out) ?_) | (at_mapUpdate; (try (refine gate_guard (by rfl) ?_; dsimp only)); refine wpList_mapUpdate_pair_bool (base := w.heap.size) pk50 z50 Tryd.underlying4 _ rfl _ _ _ 50 rfl Tryd.underlying50 _ _ _ (by first | assumption | exact of_decide_eq_true (by first | (with_reducible assumption) | assumption)) (by first | assumption | exact of_decide_eq_true (by first | (with_reducible assumption) | assumption)) rfl rfl rfl (by (with_reducible repeat (first | apply MapOwn.alloc | apply MapOwn.drewN | apply MapOwn.drew | apply MapOwn.setAny)); exact HM.out) (by first | assumption | exact of_decide_eq_true (by first | (with_reducible assumption) | assumption)) ?_; intro wM_ hm_ hg_; have nB_ := Aside0.mk (below_mapped (by repeat (first | (with_reducible first | exact HB.out | apply below_alloc | apply pw_below_drewN | apply below_drew1 | refine below_set ?_ (Aside0.out (by assumption))) | exact HB.out)) (by (with_reducible repeat (first | apply MapOwn.alloc | apply MapOwn.drewN | apply MapOwn.drew | apply MapOwn.setAny)); exact HM.out : MapOwn K50 E50 _ w.heap.size _ _) (Nat.le_refl _) hg_); clear HB HM ; have HM := Aside0.mk hm_; have HB := nB_; clear nB_ hm_ hg_))
          go_loopg [27] k1 (fun kq v27 w' => ∃ (x3_2 : List ((ByteArray × ByteArray) × Bool)) (x27_2 : Int), v27 = .int .i64 x27_2 ∧ Aside0 (table_Check.l1 kq x3_2 l0 (l0.length : Int) x27_2 = some r) ∧ Aside0 (kq ≤ k1) ∧ Aside0 (MapOwn K50 E50 w' w.heap.size VM x3_2) ∧ Aside0 (Below w.heap.size w w'))
          case atStart => exact ⟨(([] : List ((ByteArray × ByteArray) × Bool))), (0), (by first | rfl | (simp; done) | (simp [*]; done)), H', ⟨Nat.le_refl _⟩, ⟨by (with_reducible repeat (first | apply MapOwn.alloc | apply MapOwn.drewN | apply MapOwn.drew | apply MapOwn.setAny)); exact HM.out⟩, ⟨by repeat (first | (with_reducible first | exact HB.out | apply below_alloc | apply pw_below_drewN | apply below_drew1) | exact HB.out)⟩⟩
          case round =>
            clear H'
            try clear c1
            try clear p1
            try clear q1
            try clear hx1
            try clear c2
            try clear c2b0
            try clear p2
            try clear c3
            try clear c3b0
            try clear c4
            try clear c4b0
            try clear c6
            try clear p6
            try clear c13
            try clear c13b0
            try clear c13b1
            try clear p13
            try clear q13
            try clear hx13
            try clear hcz11_0
            try clear hcz11_1
            try clear hcz11_2
            try clear hcz8_0
            try clear hcz8_1
            try clear hcz8_2
            try clear hfz11_0
            try clear hfz11_1
            try clear hfz11_2
            try clear hfz8_0
            try clear hfz8_1
            try clear hfz8_2
            try clear hx130_0
            try clear hx130_1
            try clear hx130_2
            try clear p130
            try clear q130
            obtain ⟨x3_2, x27_2, rfl, HA, HK2, HM, HB⟩ := hrel
            cases gk with
            | zero => exact absurd HA.out (by simp [table_Check.l1])
            | succ k2 =>
              have H := HA.out
              clear HA
              simp only [table_Check.l1] at H
              by_cases c14 : x27_2 < (l0.length : Int)
              · rw [if_pos c14] at H
                have c14b0 : decide (x27_2 < (l0.length : Int)) = true := decide_eq_true c14
                clear c14
                by_cases c15 : 0 ≤ x27_2
                · rw [if_pos c15] at H
                  have c15b0 : decide (0 ≤ x27_2) = true := decide_eq_true c15
                  clear c15
                  by_cases c16 : x27_2 < (l0.length : Int)
                  · rw [if_pos c16] at H
                    have c16b0 : decide (x27_2 < (l0.length : Int)) = true := decide_eq_true c16
                    clear c16
                    replace H := Option.bind_eq_some_iff.mp H
                    obtain ⟨⟨t135, t136⟩, A170, H⟩ := H
                    replace H : ((path_Shape.f k2 t135).bind fun t139 => (if ((rd_T27 l0 x27_2).f0).size ≤ 9223372036854775807 then (if t139.size ≤ 9223372036854775807 then (if mapGetP x3_2 (((rd_T27 l0 x27_2).f0, t139) : ByteArray × ByteArray) = true then (some 3) else (if x3_2.length < 9223372036854775807 then (table_Check.l1 k2 (((((rd_T27 l0 x27_2).f0, t139) : ByteArray × ByteArray), true) :: x3_2) l0 (l0.length : Int) (wrap64 (x27_2 + 1))) else (none))) else (none)) else (none))) = some r := H
                    have A17 := Aside0.mk A170
                    clear A170
                    replace H := Option.bind_eq_some_iff.mp H
                    obtain ⟨t139, A180, H⟩ := H
                    replace H : (if ((rd_T27 l0 x27_2).f0).size ≤ 9223372036854775807 then (if t139.size ≤ 9223372036854775807 then (if mapGetP x3_2 (((rd_T27 l0 x27_2).f0, t139) : ByteArray × ByteArray) = true then (some 3) else (if x3_2.length < 9223372036854775807 then (table_Check.l1 k2 (((((rd_T27 l0 x27_2).f0, t139) : ByteArray × ByteArray), true) :: x3_2) l0 (l0.length : Int) (wrap64 (x27_2 + 1))) else (none))) else (none)) else (none)) = some r := H
                    have A18 := Aside0.mk A180
                    clear A180
                    by_cases c19 : ((rd_T27 l0 x27_2).f0).size ≤ 9223372036854775807
                    · rw [if_pos c19] at H
                      have c19b0 := eq_true c19
                      have c19b1 : decide (((rd_T27 l0 x27_2).f0).size ≤ 9223372036854775807) = true := decide_eq_true c19
                      try have c19b2 : (9223372036854775807 < ((rd_T27 l0 x27_2).f0).size) = False := eq_false (Nat.not_lt.2 c19)
                      clear c19
                      by_cases c20 : t139.size ≤ 9223372036854775807
                      · rw [if_pos c20] at H
                        have c20b0 := eq_true c20
                        have c20b1 : decide (t139.size ≤ 9223372036854775807) = true := decide_eq_true c20
                        try have c20b2 : (9223372036854775807 < t139.size) = False := eq_false (Nat.not_lt.2 c20)
                        clear c20
                        by_cases c21 : mapGetP x3_2 (((rd_T27 l0 x27_2).f0, t139) : ByteArray × ByteArray) = true
                        · rw [if_pos c21] at H
                          have c21b0 : mapGetP x3_2 (((rd_T27 l0 x27_2).f0, t139) : ByteArray × ByteArray) = true := c21
                          clear c21
                          obtain rfl := Option.some.inj H
                          have p133 : 0 ≤ (x27_2 : Int) := of_decide_eq_true (by first | (with_reducible assumption) | assumption)
                          have q133 : x27_2 < (l0.length : Int) := of_decide_eq_true (by first | (with_reducible assumption) | assumption)
                          obtain ⟨ad133, e133, hx133_0, hx133_1, hx133_2⟩ := at_T27 HR0.out x27_2 p133 q133
                          cases e133
                          replace hx133_0 := (HB.out.cell (World.block_lt_of_cell? w _ hx133_0)).trans hx133_0
                          replace hx133_1 := (HB.out.cell (World.block_lt_of_cell? w _ hx133_1)).trans hx133_1
                          replace hx133_2 := (HB.out.cell (World.block_lt_of_cell? w _ hx133_2)).trans hx133_2
                          replace p133 := eq_true p133
                          replace q133 := eq_true q133
                          try go_wp2_with (first | (at_lookup; (try (refine gate_guard (by rfl) ?_; dsimp only)); refine wpList_lookup_pair_bool (base := w.heap.size) pk50 z50 _ Tryd.underlying4 rfl _ _ 50 rfl Tryd.underlying50 _ _ (by first | assumption | exact of_decide_eq_true (by first | (with_reducible assumption) | assumption)) (by first | assumption | exact of_decide_eq_true (by first | (with_reducible assumption) | assumption)) rfl rfl (by (with_reducible repeat (first | apply MapOwn.alloc | apply MapOwn.drewN | apply MapOwn.drew | apply MapOwn.setAny)); exact HM.out) ?_; (try rw [c21b0])) | (at_mapUpdate; (try (refine gate_guard (by rfl) ?_; dsimp only)); refine wpList_mapUpdate_pair_bool (base := w.heap.size) pk50 z50 Tryd.underlying4 _ rfl _ _ _ 50 rfl Tryd.underlying50 _ _ _ (by first | assumption | exact of_decide_eq_true (by first | (with_reducible assumption) | assumption)) (by first | assumption | exact of_decide_eq_true (by first | (with_reducible assumption) | assumption)) rfl rfl rfl (by (with_reducible repeat (first | apply MapOwn.alloc | apply MapOwn.drewN | apply MapOwn.drew | apply MapOwn.setAny)); exact HM.out) (by first | assumption | exact of_decide_eq_true (by first | (with_reducible assumption) | assumption)) ?_; intro wM_ hm_ hg_; have nB_ := Aside0.mk (below_mapped (by repeat (first | (with_reducible first | exact HB.out | apply below_alloc | apply pw_below_drewN | apply below_drew1 | refine below_set ?_ (Aside0.out (by assumption))) | exact HB.out)) (by (with_reducible repeat (first | apply MapOwn.alloc | apply MapOwn.drewN | apply MapOwn.drew | apply MapOwn.setAny)); exact HM.out : MapOwn K50 E50 _ w.heap.size _ _) (Nat.le_refl _) hg_); clear HB HM ; have HM := Aside0.mk hm_; have HB := nB_; clear nB_ hm_ hg_) | ((with_reducible refine gate_dst (N := 7) rfl ?_); refine box_event ?hg (N := 7) ?hd (cs := #[.string (⟨#[]⟩ : ByteArray), .string (⟨#[]⟩ : ByteArray), .string (⟨#[]⟩ : ByteArray)]) (t := 27) ?hr ?_; (case hd => rfl); (case hg => rfl); (case hr => first | (go_simp; done) | (go_simp; rfl)); intro gb134 hg w22 hbox hb; (try (have nM_ := Aside0.mk (MapOwn.below (K := K50) (E := E50) (by (with_reducible repeat (first | apply MapOwn.alloc | apply MapOwn.drewN | apply MapOwn.drew | apply MapOwn.setAny)); exact HM.out) hb); clear HM; have HM := nM_; clear nM_)); have n0_ := Aside0.mk (below_step (by repeat (first | (with_reducible first | exact HB.out | apply below_alloc | apply pw_below_drewN | apply below_drew1) | exact HB.out)) hb); have n1_ := Aside0.mk (hbox); have n2_ := Aside0.mk ((by rw [hg]; exact (below_size (by repeat (first | (with_reducible first | exact HB.out | apply below_alloc | apply pw_below_drewN | apply below_drew1) | exact HB.out))) : w.heap.size ≤ gb134)); have n3_ := Aside0.mk ((by rw [hg]; exact (below_size (by repeat (first | (with_reducible first | exact HB.out | apply below_alloc | apply pw_below_drewN | apply below_drew1) | exact HB.out))) : w.heap.size ≤ gb134)); clear HB; have HB := n0_; have BK134 := n1_; have GW134 := n2_; have GE134 := n3_; clear n0_ n1_ n2_ n3_; clear hb hbox hg; have hcz23_0 : w22.cell? ⟨gb134, 0, none⟩ = some (.string (⟨#[]⟩ : ByteArray)) := (blk_cell BK134.out 0).trans rfl; have hcz23_1 : w22.cell? ⟨gb134, 1, none⟩ = some (.string (⟨#[]⟩ : ByteArray)) := (blk_cell BK134.out 1).trans rfl; have hcz23_2 : w22.cell? ⟨gb134, 2, none⟩ = some (.string (⟨#[]⟩ : ByteArray)) := (blk_cell BK134.out 2).trans rfl; have hfz23_0 := blk_frozen BK134.out 0; have hfz23_1 := blk_frozen BK134.out 1; have hfz23_2 := blk_frozen BK134.out 2) | ((with_reducible refine gate_callee (f := 11) rfl ?_); refine goesL_ (some 34) rfl rfl Tryd.func11 (by kernel_rfl) rfl #[.string ((rd_T27 l0 x27_2).f1)] rfl (by (try simp only [List.map_toArray, List.map_cons, List.map_nil]); first | done | rfl | (simp only [List.length_drop, List.length_take]; rfl)) ?_; (with_reducible refine (path_Pattern.calls k2 ((rd_T27 l0 x27_2).f1) t135 t136 _ A17.out).mono ?_); rintro e w24 ⟨v137, rfl, ho0, hb⟩; (try (have nM_ := Aside0.mk (MapOwn.below (K := K50) (E := E50) (by (with_reducible repeat (first | apply MapOwn.alloc | apply MapOwn.drewN | apply MapOwn.drew | apply MapOwn.setAny)); exact HM.out) hb); clear HM; have HM := nM_; clear nM_)); refine ⟨_, rfl, ?_⟩; have n0_ := Aside0.mk (Kd.R_lower ho0 (below_size (by repeat (first | (with_reducible first | exact HB.out | apply below_alloc | apply pw_below_drewN | apply below_drew1 | refine below_set ?_ GE134.out) | exact HB.out)))); have n1_ := Aside0.mk (blk_below (g := gb134) (o := .cells #[.string ((rd_T27 l0 x27_2).f0), .string ((rd_T27 l0 x27_2).f1), .string ((rd_T27 l0 x27_2).f2)] 27 (0, 0)) (by (with_reducible repeat (first | refine blk_drewN ?_ _ | refine blk_drew ?_ | refine blk_alloc ?_ _)); refine blk_put (cs := #[.string ((rd_T27 l0 x27_2).f0), .string ((rd_T27 l0 x27_2).f1), .string (⟨#[]⟩ : ByteArray)]) ?_ 2 _ rfl; (with_reducible repeat (first | refine blk_drewN ?_ _ | refine blk_drew ?_ | refine blk_alloc ?_ _)); refine blk_put (cs := #[.string ((rd_T27 l0 x27_2).f0), .string (⟨#[]⟩ : ByteArray), .string (⟨#[]⟩ : ByteArray)]) ?_ 1 _ rfl; (with_reducible repeat (first | refine blk_drewN ?_ _ | refine blk_drew ?_ | refine blk_alloc ?_ _)); refine blk_put (cs := #[.string (⟨#[]⟩ : ByteArray), .string (⟨#[]⟩ : ByteArray), .string (⟨#[]⟩ : ByteArray)]) ?_ 0 _ rfl; (with_reducible repeat (first | refine blk_drewN ?_ _ | refine blk_drew ?_ | refine blk_alloc ?_ _)); exact BK134.out) hb); have n2_ := Aside0.mk (below_step (by repeat (first | (with_reducible first | exact HB.out | apply below_alloc | apply pw_below_drewN | apply below_drew1 | refine below_set ?_ GE134.out) | exact HB.out)) hb); clear BK134; clear HB; have HO138 := n0_; have BK134 := n1_; have HB := n2_; clear n0_ n1_ n2_; (try clear hb); (try clear hb2); (try clear hk); (try clear hi); (try clear ho0); obtain ⟨Ao25, co25, eo25⟩ := Kd.R_slice HO138.out; subst eo25))
                          have n0_ := Aside0.mk (Kd.R_drew HO138.out)
                          have n1_ := Aside0.mk (blk_drew BK134.out)
                          have n2_ := Aside0.mk (below_drew1 HB.out)
                          (try (have nM_ := Aside0.mk (MapOwn.drew HM.out); clear HM; have HM := nM_; clear nM_))
                          clear HO138
                          clear BK134
                          clear HB
                          have HO138 := n0_
                          have BK134 := n1_
                          have HB := n2_
                          clear n0_ n1_ n2_
                          refine start_ (n := 7) (S := fun w' => w'.cell? ⟨gb134, 0, none⟩ = some (.string ((rd_T27 l0 x27_2).f0)) ∧ w'.cell? ⟨gb134, 1, none⟩ = some (.string ((rd_T27 l0 x27_2).f1)) ∧ w'.cell? ⟨gb134, 2, none⟩ = some (.string ((rd_T27 l0 x27_2).f2))) (ds := []) #[false, false, false, false, false, false, false] (by kernel_rfl) rfl rfl ⟨(blk_cell BK134.out 0).trans rfl, (blk_cell BK134.out 1).trans rfl, (blk_cell BK134.out 2).trans rfl⟩ (fun hHeld => ?_)
                          generalize w24.drew = w26 at HO138 BK134 HB HM hHeld ⊢
                          refine pure_ (i := 0) (N := some 37) (v := ?_) (a' := ?_) #[true, false, false, false, false, false, false] rfl rfl (by kernel_rfl) (fun _ _ _ h => h) (Or.inl ⟨by rfl, ?_⟩) ?_ ?_
                          rotate_left
                          · intro w'
                            go_simp
                            with_reducible rfl
                          rotate_left
                          · simp only [Act.put, List.setIfInBounds_toArray, List.set_cons_zero, List.set_cons_succ, i64_w, i32_w]
                            rfl
                          refine pure_ (i := 2) (N := some 39) (v := ?_) (a' := ?_) #[true, false, true, false, false, false, false] rfl rfl (by kernel_rfl) (fun _ _ _ h => h) (Or.inl ⟨by rfl, ?_⟩) ?_ ?_
                          rotate_left
                          · intro w'
                            go_simp
                            with_reducible rfl
                          rotate_left
                          · simp only [Act.put, List.setIfInBounds_toArray, List.set_cons_zero, List.set_cons_succ, i64_w, i32_w]
                            rfl
                          refine take_ (i := 1) (N := some 38) (v := ?_) (a' := ?_) #[true, true, true, false, false, false, false] rfl rfl (by kernel_rfl) (fun _ _ _ h => h) (Or.inl ⟨by rfl, ?_⟩) hHeld ?_ ?_
                          rotate_left
                          · rintro w' ⟨s0, s1, s2⟩
                            go_simp
                            with_reducible rfl
                          rotate_left
                          · simp only [Act.put, List.setIfInBounds_toArray, List.set_cons_zero, List.set_cons_succ, i64_w, i32_w]
                            rfl
                          refine join_ (σ := Nat) 1 #[true, true, true, true, true, true, false] (fun s_ => [(40, .string t139), (10, .pointer (some ⟨s_, 0, none⟩)), (41, .agg #[.string ((rd_T27 l0 x27_2).f0), .string t139])]) (fun s_ w' => (w'.cell? ⟨gb134, 0, none⟩ = some (.string ((rd_T27 l0 x27_2).f0)) ∧ w'.cell? ⟨gb134, 1, none⟩ = some (.string ((rd_T27 l0 x27_2).f1)) ∧ w'.cell? ⟨gb134, 2, none⟩ = some (.string ((rd_T27 l0 x27_2).f2))) ∧ (Kd.R Kd.string 9 w' w.heap.size (fun _ => True) (.slice Ao25 t135.length co25) t135) ∧ (w'.heap[gb134]? = some (.cells #[.string ((rd_T27 l0 x27_2).f0), .string ((rd_T27 l0 x27_2).f1), .string ((rd_T27 l0 x27_2).f2)] 27 (0, 0))) ∧ (w'.heap[s_]? = some (.cells #[.string (⟨#[]⟩ : ByteArray), .string (⟨#[]⟩ : ByteArray)] 52 (0, 0))) ∧ (w.heap.size ≤ s_) ∧ (w.heap.size ≤ s_) ∧ (gb134 ≠ s_) ∧ (s_ ≠ gb134) ∧ (Below w.heap.size w w') ∧ (MapOwn K50 E50 w' w.heap.size VM x3_2)) ?_ ?_
                          rotate_left
                          · intro hCont
                            refine two_ (i := 3) (j := 5) (Ni := some 40) (Nj := some 10) #[true, true, true, true, false, false, false] #[true, true, true, false, false, true, false] rfl rfl rfl rfl (by kernel_rfl) (by decide) (by decide) (fun K hK => ?_) (fun K hK => ?_)
                            · skip
                              refine goes_ Tryd.func12 (by kernel_rfl) rfl #[.slice Ao25 t135.length co25] (by rfl) rfl rfl (by (try simp only [List.map_toArray, List.map_cons, List.map_nil]); first | done | rfl | (simp only [List.length_drop, List.length_take]; rfl)) ?_
                              with_reducible refine (path_Shape.calls k2 _ _ t135 t139 _ ?side1 ?side2 A18.out).mono ?_
                              (case side1 => repeat (first | exact (Kd.R_reads' HO138.out).2.2 | (with_reducible refine Kd.C_alloc ?_ _) | (with_reducible refine Kd.C_drewN ?_ _) | (with_reducible refine Kd.C_drew ?_)))
                              (case side2 => exact (Kd.R_reads' HO138.out).2.1)
                              rintro e w' ⟨rfl, ⟨nd, rfl⟩⟩
                              refine ⟨_, rfl, ?_⟩
                              refine hK.out _ _ ⟨(blk_cell BK134.out 0).trans rfl, (blk_cell BK134.out 1).trans rfl, (blk_cell BK134.out 2).trans rfl⟩ (fun hHeld => ?_)
                              clear hK K
                              refine norm_ (a' := ?_) ?_ ?_
                              rotate_left
                              · show Act.put _ (some 40) _ = _
                                simp only [Act.put, List.setIfInBounds_toArray, List.set_cons_zero, List.set_cons_succ, i64_w, i32_w]
                                rfl
                              refine pure_ (i := 4) (N := some 41) (v := ?_) (a' := ?_) #[true, true, true, true, true, false, false] rfl rfl (by kernel_rfl) (fun _ _ _ h => h) (Or.inl ⟨by rfl, ?_⟩) ?_ ?_
                              rotate_left
                              · intro w'
                                go_simp
                                with_reducible rfl
                              rotate_left
                              · simp only [Act.put, List.setIfInBounds_toArray, List.set_cons_zero, List.set_cons_succ, i64_w, i32_w]
                                rfl
                              refine one_ (i := 5) (N := some 10) #[true, true, true, true, true, true, false] rfl rfl (by kernel_rfl) (by decide) (fun K hK => ?_)
                              refine box_step ?hg (N := 10) ?hd (cs := #[.string (⟨#[]⟩ : ByteArray), .string (⟨#[]⟩ : ByteArray)]) (t := 52) ?hr ?_; (case hd => rfl); (case hg => rfl); (case hr => first | (go_simp; done) | (go_simp; rfl))
                              intro gb140 hg w27 hbox hb
                              (try (have nM_ := Aside0.mk (MapOwn.below (K := K50) (E := E50) (by (with_reducible repeat (first | apply MapOwn.alloc | apply MapOwn.drewN | apply MapOwn.drew | apply MapOwn.setAny)); exact HM.out) hb); clear HM; have HM := nM_; clear nM_))
                              have n0_ := Aside0.mk (Kd.R_below (by (with_reducible repeat (first | apply Kd.R_alloc | apply Kd.R_drewN | apply Kd.R_drew)); exact HO138.out) hb)
                              have n1_ := Aside0.mk (blk_below (g := gb134) (o := .cells #[.string ((rd_T27 l0 x27_2).f0), .string ((rd_T27 l0 x27_2).f1), .string ((rd_T27 l0 x27_2).f2)] 27 (0, 0)) (by (with_reducible repeat (first | refine blk_drewN ?_ _ | refine blk_drew ?_ | refine blk_alloc ?_ _)); exact BK134.out) hb)
                              have n2_ := Aside0.mk (below_step (by repeat (first | (with_reducible first | exact HB.out | apply below_alloc | apply pw_below_drewN | apply below_drew1 | refine below_set ?_ GE134.out) | exact HB.out)) hb)
                              have n3_ := Aside0.mk (hbox)
                              have n4_ := Aside0.mk ((by rw [hg]; exact (below_size (by repeat (first | (with_reducible first | exact HB.out | apply below_alloc | apply pw_below_drewN | apply below_drew1 | refine below_set ?_ GE134.out) | exact HB.out))) : w.heap.size ≤ gb140))
                              have n5_ := Aside0.mk ((by rw [hg]; exact (below_size (by repeat (first | (with_reducible first | exact HB.out | apply below_alloc | apply pw_below_drewN | apply below_drew1 | refine below_set ?_ GE134.out) | exact HB.out))) : w.heap.size ≤ gb140))
                              have n6_ := Aside0.mk ((by rw [hg]; exact Nat.ne_of_lt (blk_lt (g := gb134) (o := .cells #[.string ((rd_T27 l0 x27_2).f0), .string ((rd_T27 l0 x27_2).f1), .string ((rd_T27 l0 x27_2).f2)] 27 (0, 0)) (by (with_reducible repeat (first | refine blk_drewN ?_ _ | refine blk_drew ?_ | refine blk_alloc ?_ _)); exact BK134.out)) : gb134 ≠ gb140))
                              have n7_ := Aside0.mk ((by rw [hg]; exact Nat.ne_of_gt (blk_lt (g := gb134) (o := .cells #[.string ((rd_T27 l0 x27_2).f0), .string ((rd_T27 l0 x27_2).f1), .string ((rd_T27 l0 x27_2).f2)] 27 (0, 0)) (by (with_reducible repeat (first | refine blk_drewN ?_ _ | refine blk_drew ?_ | refine blk_alloc ?_ _)); exact BK134.out)) : gb140 ≠ gb134))
                              clear HO138
                              clear BK134
                              clear HB
                              have HO138 := n0_
                              have BK134 := n1_
                              have HB := n2_
                              have BK140 := n3_
                              have GW140 := n4_
                              have GE140 := n5_
                              have NB134_140 := n6_
                              have NB140_134 := n7_
                              clear n0_ n1_ n2_ n3_ n4_ n5_ n6_ n7_
                              clear hb hbox hg
                              refine hK.out _ _ ⟨(blk_cell BK134.out 0).trans rfl, (blk_cell BK134.out 1).trans rfl, (blk_cell BK134.out 2).trans rfl⟩ (fun hHeld => ?_)
                              clear hK K
                              refine norm_ (a' := ?_) ?_ ?_
                              rotate_left
                              · show Act.put _ (some 10) _ = _
                                simp only [Act.put, List.setIfInBounds_toArray, List.set_cons_zero, List.set_cons_succ, i64_w, i32_w]
                                rfl
                              exact norm_ (by simp only [putAll, Act.put, List.setIfInBounds_toArray, List.set_cons_zero, List.set_cons_succ]) (hCont (gb140) _ ⟨hHeld, (by (with_reducible repeat (first | apply Kd.R_alloc | apply Kd.R_drewN | apply Kd.R_drew)); exact HO138.out), (by (with_reducible repeat (first | refine blk_drewN ?_ _ | refine blk_drew ?_ | refine blk_alloc ?_ _)); exact BK134.out), (by (with_reducible repeat (first | refine blk_drewN ?_ _ | refine blk_drew ?_ | refine blk_alloc ?_ _)); exact BK140.out), GW140.out, GE140.out, NB134_140.out, NB140_134.out, (by repeat (first | (with_reducible first | exact HB.out | apply below_alloc | apply pw_below_drewN | apply below_drew1 | refine below_set ?_ GE134.out | refine below_set ?_ GE140.out) | exact HB.out)), (by (with_reducible repeat (first | apply MapOwn.alloc | apply MapOwn.drewN | apply MapOwn.drew | apply MapOwn.setAny)); exact HM.out)⟩)
                            · skip
                              refine box_step ?hg (N := 10) ?hd (cs := #[.string (⟨#[]⟩ : ByteArray), .string (⟨#[]⟩ : ByteArray)]) (t := 52) ?hr ?_; (case hd => rfl); (case hg => rfl); (case hr => first | (go_simp; done) | (go_simp; rfl))
                              intro gb140 hg w27 hbox hb
                              (try (have nM_ := Aside0.mk (MapOwn.below (K := K50) (E := E50) (by (with_reducible repeat (first | apply MapOwn.alloc | apply MapOwn.drewN | apply MapOwn.drew | apply MapOwn.setAny)); exact HM.out) hb); clear HM; have HM := nM_; clear nM_))
                              have n0_ := Aside0.mk (Kd.R_below (by (with_reducible repeat (first | apply Kd.R_alloc | apply Kd.R_drewN | apply Kd.R_drew)); exact HO138.out) hb)
                              have n1_ := Aside0.mk (blk_below (g := gb134) (o := .cells #[.string ((rd_T27 l0 x27_2).f0), .string ((rd_T27 l0 x27_2).f1), .string ((rd_T27 l0 x27_2).f2)] 27 (0, 0)) (by (with_reducible repeat (first | refine blk_drewN ?_ _ | refine blk_drew ?_ | refine blk_alloc ?_ _)); exact BK134.out) hb)
                              have n2_ := Aside0.mk (below_step (by repeat (first | (with_reducible first | exact HB.out | apply below_alloc | apply pw_below_drewN | apply below_drew1 | refine below_set ?_ GE134.out) | exact HB.out)) hb)
                              have n3_ := Aside0.mk (hbox)
                              have n4_ := Aside0.mk ((by rw [hg]; exact (below_size (by repeat (first | (with_reducible first | exact HB.out | apply below_alloc | apply pw_below_drewN | apply below_drew1 | refine below_set ?_ GE134.out) | exact HB.out))) : w.heap.size ≤ gb140))
                              have n5_ := Aside0.mk ((by rw [hg]; exact (below_size (by repeat (first | (with_reducible first | exact HB.out | apply below_alloc | apply pw_below_drewN | apply below_drew1 | refine below_set ?_ GE134.out) | exact HB.out))) : w.heap.size ≤ gb140))
                              have n6_ := Aside0.mk ((by rw [hg]; exact Nat.ne_of_lt (blk_lt (g := gb134) (o := .cells #[.string ((rd_T27 l0 x27_2).f0), .string ((rd_T27 l0 x27_2).f1), .string ((rd_T27 l0 x27_2).f2)] 27 (0, 0)) (by (with_reducible repeat (first | refine blk_drewN ?_ _ | refine blk_drew ?_ | refine blk_alloc ?_ _)); exact BK134.out)) : gb134 ≠ gb140))
                              have n7_ := Aside0.mk ((by rw [hg]; exact Nat.ne_of_gt (blk_lt (g := gb134) (o := .cells #[.string ((rd_T27 l0 x27_2).f0), .string ((rd_T27 l0 x27_2).f1), .string ((rd_T27 l0 x27_2).f2)] 27 (0, 0)) (by (with_reducible repeat (first | refine blk_drewN ?_ _ | refine blk_drew ?_ | refine blk_alloc ?_ _)); exact BK134.out)) : gb140 ≠ gb134))
                              clear HO138
                              clear BK134
                              clear HB
                              have HO138 := n0_
                              have BK134 := n1_
                              have HB := n2_
                              have BK140 := n3_
                              have GW140 := n4_
                              have GE140 := n5_
                              have NB134_140 := n6_
                              have NB140_134 := n7_
                              clear n0_ n1_ n2_ n3_ n4_ n5_ n6_ n7_
                              clear hb hbox hg
                              refine hK.out _ _ ⟨(blk_cell BK134.out 0).trans rfl, (blk_cell BK134.out 1).trans rfl, (blk_cell BK134.out 2).trans rfl⟩ (fun hHeld => ?_)
                              clear hK K
                              refine norm_ (a' := ?_) ?_ ?_
                              rotate_left
                              · show Act.put _ (some 10) _ = _
                                simp only [Act.put, List.setIfInBounds_toArray, List.set_cons_zero, List.set_cons_succ, i64_w, i32_w]
                                rfl
                              refine one_ (i := 3) (N := some 40) #[true, true, true, true, false, true, false] rfl rfl (by kernel_rfl) (by decide) (fun K hK => ?_)
                              refine goes_ Tryd.func12 (by kernel_rfl) rfl #[.slice Ao25 t135.length co25] (by rfl) rfl rfl (by (try simp only [List.map_toArray, List.map_cons, List.map_nil]); first | done | rfl | (simp only [List.length_drop, List.length_take]; rfl)) ?_
                              with_reducible refine (path_Shape.calls k2 _ _ t135 t139 _ ?side1 ?side2 A18.out).mono ?_
                              (case side1 => repeat (first | exact (Kd.R_reads' HO138.out).2.2 | (with_reducible refine Kd.C_alloc ?_ _) | (with_reducible refine Kd.C_drewN ?_ _) | (with_reducible refine Kd.C_drew ?_)))
                              (case side2 => exact (Kd.R_reads' HO138.out).2.1)
                              rintro e w' ⟨rfl, ⟨nd, rfl⟩⟩
                              refine ⟨_, rfl, ?_⟩
                              refine hK.out _ _ ⟨(blk_cell BK134.out 0).trans rfl, (blk_cell BK134.out 1).trans rfl, (blk_cell BK134.out 2).trans rfl⟩ (fun hHeld => ?_)
                              clear hK K
                              refine norm_ (a' := ?_) ?_ ?_
                              rotate_left
                              · show Act.put _ (some 40) _ = _
                                simp only [Act.put, List.setIfInBounds_toArray, List.set_cons_zero, List.set_cons_succ, i64_w, i32_w]
                                rfl
                              refine pure_ (i := 4) (N := some 41) (v := ?_) (a' := ?_) #[true, true, true, true, true, true, false] rfl rfl (by kernel_rfl) (fun _ _ _ h => h) (Or.inl ⟨by rfl, ?_⟩) ?_ ?_
                              rotate_left
                              · intro w'
                                go_simp
                                with_reducible rfl
                              rotate_left
                              · simp only [Act.put, List.setIfInBounds_toArray, List.set_cons_zero, List.set_cons_succ, i64_w, i32_w]
                                rfl
                              exact norm_ (by simp only [putAll, Act.put, List.setIfInBounds_toArray, List.set_cons_zero, List.set_cons_succ]) (hCont (gb140) _ ⟨hHeld, (by (with_reducible repeat (first | apply Kd.R_alloc | apply Kd.R_drewN | apply Kd.R_drew)); exact HO138.out), (by (with_reducible repeat (first | refine blk_drewN ?_ _ | refine blk_drew ?_ | refine blk_alloc ?_ _)); exact BK134.out), (by (with_reducible repeat (first | refine blk_drewN ?_ _ | refine blk_drew ?_ | refine blk_alloc ?_ _)); exact BK140.out), GW140.out, GE140.out, NB134_140.out, NB140_134.out, (by repeat (first | (with_reducible first | exact HB.out | apply below_alloc | apply pw_below_drewN | apply below_drew1 | refine below_set ?_ GE134.out | refine below_set ?_ GE140.out) | exact HB.out)), (by (with_reducible repeat (first | apply MapOwn.alloc | apply MapOwn.drewN | apply MapOwn.drew | apply MapOwn.setAny)); exact HM.out)⟩)
                          rintro gb140 w28 ⟨hS_, h0_, h1_, h2_, h3_, h4_, h5_, h6_, h7_, hM_⟩
                          clear HM
                          have HM := Aside0.mk hM_
                          clear hM_
                          have n0_ : Aside0 (Kd.R Kd.string 9 w28 w.heap.size (fun _ => True) (.slice Ao25 t135.length co25) t135) := ⟨h0_⟩
                          have n1_ : Aside0 (w28.heap[gb134]? = some (.cells #[.string ((rd_T27 l0 x27_2).f0), .string ((rd_T27 l0 x27_2).f1), .string ((rd_T27 l0 x27_2).f2)] 27 (0, 0))) := ⟨h1_⟩
                          have n2_ : Aside0 (w28.heap[gb140]? = some (.cells #[.string (⟨#[]⟩ : ByteArray), .string (⟨#[]⟩ : ByteArray)] 52 (0, 0))) := ⟨h2_⟩
                          have n3_ : Aside0 (w.heap.size ≤ gb140) := ⟨h3_⟩
                          have n4_ : Aside0 (w.heap.size ≤ gb140) := ⟨h4_⟩
                          have n5_ : Aside0 (gb134 ≠ gb140) := ⟨h5_⟩
                          have n6_ : Aside0 (gb140 ≠ gb134) := ⟨h6_⟩
                          have n7_ : Aside0 (Below w.heap.size w w28) := ⟨h7_⟩
                          clear HO138
                          clear BK134
                          clear HB
                          clear h0_ h1_ h2_ h3_ h4_ h5_ h6_ h7_
                          have HO138 := n0_
                          have BK134 := n1_
                          have BK140 := n2_
                          have GW140 := n3_
                          have GE140 := n4_
                          have NB134_140 := n5_
                          have NB140_134 := n6_
                          have HB := n7_
                          clear n0_ n1_ n2_ n3_ n4_ n5_ n6_ n7_
                          have hHeld : w28.cell? ⟨gb134, 0, none⟩ = some (.string ((rd_T27 l0 x27_2).f0)) ∧ w28.cell? ⟨gb134, 1, none⟩ = some (.string ((rd_T27 l0 x27_2).f1)) ∧ w28.cell? ⟨gb134, 2, none⟩ = some (.string ((rd_T27 l0 x27_2).f2)) := hS_
                          refine norm_ (a' := ?_) ?_ ?_
                          rotate_left
                          · simp only [putAll, Act.put, List.setIfInBounds_toArray, List.set_cons_zero, List.set_cons_succ]
                            rfl
                          refine one_ (i := 6) (N := none) #[true, true, true, true, true, true, true] rfl rfl (by kernel_rfl) (by decide) (fun K hK => ?_)
                          have hs29 : w28.cell? ⟨gb140, 0, none⟩ = some (.string (⟨#[]⟩ : ByteArray)) := (blk_cell BK140.out 0).trans rfl
                          have hfs29 := blk_frozen BK140.out 0
                          have hns29_0 := NB134_140.out
                          have hms29_0 := NB140_134.out
                          have hs30 : w28.cell? ⟨gb140, 1, none⟩ = some (.string (⟨#[]⟩ : ByteArray)) := (blk_cell BK140.out 1).trans rfl
                          have hfs30 := blk_frozen BK140.out 1
                          have hns30_0 := NB134_140.out
                          have hms30_0 := NB140_134.out
                          refine skip_ (w1 := ?_) (by rfl) rfl ?_ ?_
                          rotate_left
                          · go_simp
                            rfl
                          refine hK.out _ _ ⟨((cell_far (p := ⟨gb140, _, none⟩) NB134_140.out _).trans (((cell_far (p := ⟨gb140, _, none⟩) NB134_140.out _).trans (hHeld.1)))), ((cell_far (p := ⟨gb140, _, none⟩) NB134_140.out _).trans (((cell_far (p := ⟨gb140, _, none⟩) NB134_140.out _).trans (hHeld.2.1)))), ((cell_far (p := ⟨gb140, _, none⟩) NB134_140.out _).trans (((cell_far (p := ⟨gb140, _, none⟩) NB134_140.out _).trans (hHeld.2.2))))⟩ (fun hHeld => ?_)
                          clear hK K
                          refine done_ (by kernel_rfl) ?_
                          have hnb31 := NB140_134.out
                          have hnc31 := NB134_140.out
                          have hcz32_0 : w28.cell? ⟨gb140, 0, none⟩ = some (.string (⟨#[]⟩ : ByteArray)) := (blk_cell BK140.out 0).trans rfl
                          have hcz32_1 : w28.cell? ⟨gb140, 1, none⟩ = some (.string (⟨#[]⟩ : ByteArray)) := (blk_cell BK140.out 1).trans rfl
                          have hfz32_0 := blk_frozen BK140.out 0
                          have hfz32_1 := blk_frozen BK140.out 1
                          try go_wp2_with (first | (at_lookup; (try (refine gate_guard (by rfl) ?_; dsimp only)); refine wpList_lookup_pair_bool (base := w.heap.size) pk50 z50 _ Tryd.underlying4 rfl _ _ 50 rfl Tryd.underlying50 _ _ (by first | assumption | exact of_decide_eq_true (by first | (with_reducible assumption) | assumption)) (by first | assumption | exact of_decide_eq_true (by first | (with_reducible assumption) | assumption)) rfl rfl (by (with_reducible repeat (first | apply MapOwn.alloc | apply MapOwn.drewN | apply MapOwn.drew | apply MapOwn.setAny)); exact HM.out) ?_; (try rw [c21b0])) | (at_mapUpdate; (try (refine gate_guard (by rfl) ?_; dsimp only)); refine wpList_mapUpdate_pair_bool (base := w.heap.size) pk50 z50 Tryd.underlying4 _ rfl _ _ _ 50 rfl Tryd.underlying50 _ _ _ (by first | assumption | exact of_decide_eq_true (by first | (with_reducible assumption) | assumption)) (by first | assumption | exact of_decide_eq_true (by first | (with_reducible assumption) | assumption)) rfl rfl rfl (by (with_reducible repeat (first | apply MapOwn.alloc | apply MapOwn.drewN | apply MapOwn.drew | apply MapOwn.setAny)); exact HM.out) (by first | assumption | exact of_decide_eq_true (by first | (with_reducible assumption) | assumption)) ?_; intro wM_ hm_ hg_; have nB_ := Aside0.mk (below_mapped (by repeat (first | (with_reducible first | exact HB.out | apply below_alloc | apply pw_below_drewN | apply below_drew1 | refine below_set ?_ (Aside0.out (by assumption))) | exact HB.out)) (by (with_reducible repeat (first | apply MapOwn.alloc | apply MapOwn.drewN | apply MapOwn.drew | apply MapOwn.setAny)); exact HM.out : MapOwn K50 E50 _ w.heap.size _ _) (Nat.le_refl _) hg_); clear HB HM ; have HM := Aside0.mk hm_; have HB := nB_; clear nB_ hm_ hg_))
                          go_ret
                          exact ⟨by first | rfl | (simp [errW_none, errW_some] <;> rfl) | (simp [*, errW_none, errW_some] <;> rfl), by repeat (first | (with_reducible first | exact HB.out | apply below_alloc | apply pw_below_drewN | apply below_drew1 | refine below_set ?_ GE134.out | refine below_set ?_ GE140.out) | exact HB.out)⟩
                        · rw [if_neg c21] at H
                          have c21b0 : mapGetP x3_2 (((rd_T27 l0 x27_2).f0, t139) : ByteArray × ByteArray) = false := by simpa using c21
                          clear c21
                          by_cases c33 : x3_2.length < 9223372036854775807
                          · rw [if_pos c33] at H
                            have c33b0 := eq_true c33
                            have c33b1 : decide (x3_2.length < 9223372036854775807) = true := decide_eq_true c33
                            clear c33
                            have H' := Aside0.mk H
                            clear H
                            have p133 : 0 ≤ (x27_2 : Int) := of_decide_eq_true (by first | (with_reducible assumption) | assumption)
                            have q133 : x27_2 < (l0.length : Int) := of_decide_eq_true (by first | (with_reducible assumption) | assumption)
                            obtain ⟨ad133, e133, hx133_0, hx133_1, hx133_2⟩ := at_T27 HR0.out x27_2 p133 q133
                            cases e133
                            replace hx133_0 := (HB.out.cell (World.block_lt_of_cell? w _ hx133_0)).trans hx133_0
                            replace hx133_1 := (HB.out.cell (World.block_lt_of_cell? w _ hx133_1)).trans hx133_1
                            replace hx133_2 := (HB.out.cell (World.block_lt_of_cell? w _ hx133_2)).trans hx133_2
                            replace p133 := eq_true p133
                            replace q133 := eq_true q133
                            try go_wp2_with (first | (at_lookup; (try (refine gate_guard (by rfl) ?_; dsimp only)); refine wpList_lookup_pair_bool (base := w.heap.size) pk50 z50 _ Tryd.underlying4 rfl _ _ 50 rfl Tryd.underlying50 _ _ (by first | assumption | exact of_decide_eq_true (by first | (with_reducible assumption) | assumption)) (by first | assumption | exact of_decide_eq_true (by first | (with_reducible assumption) | assumption)) rfl rfl (by (with_reducible repeat (first | apply MapOwn.alloc | apply MapOwn.drewN | apply MapOwn.drew | apply MapOwn.setAny)); exact HM.out) ?_; (try rw [c21b0])) | (at_mapUpdate; (try (refine gate_guard (by rfl) ?_; dsimp only)); refine wpList_mapUpdate_pair_bool (base := w.heap.size) pk50 z50 Tryd.underlying4 _ rfl _ _ _ 50 rfl Tryd.underlying50 _ _ _ (by first | assumption | exact of_decide_eq_true (by first | (with_reducible assumption) | assumption)) (by first | assumption | exact of_decide_eq_true (by first | (with_reducible assumption) | assumption)) rfl rfl rfl (by (with_reducible repeat (first | apply MapOwn.alloc | apply MapOwn.drewN | apply MapOwn.drew | apply MapOwn.setAny)); exact HM.out) (by first | assumption | exact of_decide_eq_true (by first | (with_reducible assumption) | assumption)) ?_; intro wM_ hm_ hg_; have nB_ := Aside0.mk (below_mapped (by repeat (first | (with_reducible first | exact HB.out | apply below_alloc | apply pw_below_drewN | apply below_drew1 | refine below_set ?_ (Aside0.out (by assumption))) | exact HB.out)) (by (with_reducible repeat (first | apply MapOwn.alloc | apply MapOwn.drewN | apply MapOwn.drew | apply MapOwn.setAny)); exact HM.out : MapOwn K50 E50 _ w.heap.size _ _) (Nat.le_refl _) hg_); clear HB HM ; have HM := Aside0.mk hm_; have HB := nB_; clear nB_ hm_ hg_) | ((with_reducible refine gate_dst (N := 7) rfl ?_); refine box_event ?hg (N := 7) ?hd (cs := #[.string (⟨#[]⟩ : ByteArray), .string (⟨#[]⟩ : ByteArray), .string (⟨#[]⟩ : ByteArray)]) (t := 27) ?hr ?_; (case hd => rfl); (case hg => rfl); (case hr => first | (go_simp; done) | (go_simp; rfl)); intro gb134 hg w34 hbox hb; (try (have nM_ := Aside0.mk (MapOwn.below (K := K50) (E := E50) (by (with_reducible repeat (first | apply MapOwn.alloc | apply MapOwn.drewN | apply MapOwn.drew | apply MapOwn.setAny)); exact HM.out) hb); clear HM; have HM := nM_; clear nM_)); have n0_ := Aside0.mk (below_step (by repeat (first | (with_reducible first | exact HB.out | apply below_alloc | apply pw_below_drewN | apply below_drew1) | exact HB.out)) hb); have n1_ := Aside0.mk (hbox); have n2_ := Aside0.mk ((by rw [hg]; exact (below_size (by repeat (first | (with_reducible first | exact HB.out | apply below_alloc | apply pw_below_drewN | apply below_drew1) | exact HB.out))) : w.heap.size ≤ gb134)); have n3_ := Aside0.mk ((by rw [hg]; exact (below_size (by repeat (first | (with_reducible first | exact HB.out | apply below_alloc | apply pw_below_drewN | apply below_drew1) | exact HB.out))) : w.heap.size ≤ gb134)); clear HB; have HB := n0_; have BK134 := n1_; have GW134 := n2_; have GE134 := n3_; clear n0_ n1_ n2_ n3_; clear hb hbox hg; have hcz35_0 : w34.cell? ⟨gb134, 0, none⟩ = some (.string (⟨#[]⟩ : ByteArray)) := (blk_cell BK134.out 0).trans rfl; have hcz35_1 : w34.cell? ⟨gb134, 1, none⟩ = some (.string (⟨#[]⟩ : ByteArray)) := (blk_cell BK134.out 1).trans rfl; have hcz35_2 : w34.cell? ⟨gb134, 2, none⟩ = some (.string (⟨#[]⟩ : ByteArray)) := (blk_cell BK134.out 2).trans rfl; have hfz35_0 := blk_frozen BK134.out 0; have hfz35_1 := blk_frozen BK134.out 1; have hfz35_2 := blk_frozen BK134.out 2) | ((with_reducible refine gate_callee (f := 11) rfl ?_); refine goesL_ (some 34) rfl rfl Tryd.func11 (by kernel_rfl) rfl #[.string ((rd_T27 l0 x27_2).f1)] rfl (by (try simp only [List.map_toArray, List.map_cons, List.map_nil]); first | done | rfl | (simp only [List.length_drop, List.length_take]; rfl)) ?_; (with_reducible refine (path_Pattern.calls k2 ((rd_T27 l0 x27_2).f1) t135 t136 _ A17.out).mono ?_); rintro e w36 ⟨v137, rfl, ho0, hb⟩; (try (have nM_ := Aside0.mk (MapOwn.below (K := K50) (E := E50) (by (with_reducible repeat (first | apply MapOwn.alloc | apply MapOwn.drewN | apply MapOwn.drew | apply MapOwn.setAny)); exact HM.out) hb); clear HM; have HM := nM_; clear nM_)); refine ⟨_, rfl, ?_⟩; have n0_ := Aside0.mk (Kd.R_lower ho0 (below_size (by repeat (first | (with_reducible first | exact HB.out | apply below_alloc | apply pw_below_drewN | apply below_drew1 | refine below_set ?_ GE134.out) | exact HB.out)))); have n1_ := Aside0.mk (blk_below (g := gb134) (o := .cells #[.string ((rd_T27 l0 x27_2).f0), .string ((rd_T27 l0 x27_2).f1), .string ((rd_T27 l0 x27_2).f2)] 27 (0, 0)) (by (with_reducible repeat (first | refine blk_drewN ?_ _ | refine blk_drew ?_ | refine blk_alloc ?_ _)); refine blk_put (cs := #[.string ((rd_T27 l0 x27_2).f0), .string ((rd_T27 l0 x27_2).f1), .string (⟨#[]⟩ : ByteArray)]) ?_ 2 _ rfl; (with_reducible repeat (first | refine blk_drewN ?_ _ | refine blk_drew ?_ | refine blk_alloc ?_ _)); refine blk_put (cs := #[.string ((rd_T27 l0 x27_2).f0), .string (⟨#[]⟩ : ByteArray), .string (⟨#[]⟩ : ByteArray)]) ?_ 1 _ rfl; (with_reducible repeat (first | refine blk_drewN ?_ _ | refine blk_drew ?_ | refine blk_alloc ?_ _)); refine blk_put (cs := #[.string (⟨#[]⟩ : ByteArray), .string (⟨#[]⟩ : ByteArray), .string (⟨#[]⟩ : ByteArray)]) ?_ 0 _ rfl; (with_reducible repeat (first | refine blk_drewN ?_ _ | refine blk_drew ?_ | refine blk_alloc ?_ _)); exact BK134.out) hb); have n2_ := Aside0.mk (below_step (by repeat (first | (with_reducible first | exact HB.out | apply below_alloc | apply pw_below_drewN | apply below_drew1 | refine below_set ?_ GE134.out) | exact HB.out)) hb); clear BK134; clear HB; have HO138 := n0_; have BK134 := n1_; have HB := n2_; clear n0_ n1_ n2_; (try clear hb); (try clear hb2); (try clear hk); (try clear hi); (try clear ho0); obtain ⟨Ao37, co37, eo37⟩ := Kd.R_slice HO138.out; subst eo37))
                            have n0_ := Aside0.mk (Kd.R_drew HO138.out)
                            have n1_ := Aside0.mk (blk_drew BK134.out)
                            have n2_ := Aside0.mk (below_drew1 HB.out)
                            (try (have nM_ := Aside0.mk (MapOwn.drew HM.out); clear HM; have HM := nM_; clear nM_))
                            clear HO138
                            clear BK134
                            clear HB
                            have HO138 := n0_
                            have BK134 := n1_
                            have HB := n2_
                            clear n0_ n1_ n2_
                            refine start_ (n := 7) (S := fun w' => w'.cell? ⟨gb134, 0, none⟩ = some (.string ((rd_T27 l0 x27_2).f0)) ∧ w'.cell? ⟨gb134, 1, none⟩ = some (.string ((rd_T27 l0 x27_2).f1)) ∧ w'.cell? ⟨gb134, 2, none⟩ = some (.string ((rd_T27 l0 x27_2).f2))) (ds := []) #[false, false, false, false, false, false, false] (by kernel_rfl) rfl rfl ⟨(blk_cell BK134.out 0).trans rfl, (blk_cell BK134.out 1).trans rfl, (blk_cell BK134.out 2).trans rfl⟩ (fun hHeld => ?_)
                            generalize w36.drew = w38 at HO138 BK134 HB HM hHeld ⊢
                            refine pure_ (i := 0) (N := some 37) (v := ?_) (a' := ?_) #[true, false, false, false, false, false, false] rfl rfl (by kernel_rfl) (fun _ _ _ h => h) (Or.inl ⟨by rfl, ?_⟩) ?_ ?_
                            rotate_left
                            · intro w'
                              go_simp
                              with_reducible rfl
                            rotate_left
                            · simp only [Act.put, List.setIfInBounds_toArray, List.set_cons_zero, List.set_cons_succ, i64_w, i32_w]
                              rfl
                            refine pure_ (i := 2) (N := some 39) (v := ?_) (a' := ?_) #[true, false, true, false, false, false, false] rfl rfl (by kernel_rfl) (fun _ _ _ h => h) (Or.inl ⟨by rfl, ?_⟩) ?_ ?_
                            rotate_left
                            · intro w'
                              go_simp
                              with_reducible rfl
                            rotate_left
                            · simp only [Act.put, List.setIfInBounds_toArray, List.set_cons_zero, List.set_cons_succ, i64_w, i32_w]
                              rfl
                            refine take_ (i := 1) (N := some 38) (v := ?_) (a' := ?_) #[true, true, true, false, false, false, false] rfl rfl (by kernel_rfl) (fun _ _ _ h => h) (Or.inl ⟨by rfl, ?_⟩) hHeld ?_ ?_
                            rotate_left
                            · rintro w' ⟨s0, s1, s2⟩
                              go_simp
                              with_reducible rfl
                            rotate_left
                            · simp only [Act.put, List.setIfInBounds_toArray, List.set_cons_zero, List.set_cons_succ, i64_w, i32_w]
                              rfl
                            refine join_ (σ := Nat) 1 #[true, true, true, true, true, true, false] (fun s_ => [(40, .string t139), (10, .pointer (some ⟨s_, 0, none⟩)), (41, .agg #[.string ((rd_T27 l0 x27_2).f0), .string t139])]) (fun s_ w' => (w'.cell? ⟨gb134, 0, none⟩ = some (.string ((rd_T27 l0 x27_2).f0)) ∧ w'.cell? ⟨gb134, 1, none⟩ = some (.string ((rd_T27 l0 x27_2).f1)) ∧ w'.cell? ⟨gb134, 2, none⟩ = some (.string ((rd_T27 l0 x27_2).f2))) ∧ (Kd.R Kd.string 9 w' w.heap.size (fun _ => True) (.slice Ao37 t135.length co37) t135) ∧ (w'.heap[gb134]? = some (.cells #[.string ((rd_T27 l0 x27_2).f0), .string ((rd_T27 l0 x27_2).f1), .string ((rd_T27 l0 x27_2).f2)] 27 (0, 0))) ∧ (w'.heap[s_]? = some (.cells #[.string (⟨#[]⟩ : ByteArray), .string (⟨#[]⟩ : ByteArray)] 52 (0, 0))) ∧ (w.heap.size ≤ s_) ∧ (w.heap.size ≤ s_) ∧ (gb134 ≠ s_) ∧ (s_ ≠ gb134) ∧ (Below w.heap.size w w') ∧ (MapOwn K50 E50 w' w.heap.size VM x3_2)) ?_ ?_
                            rotate_left
                            · intro hCont
                              refine two_ (i := 3) (j := 5) (Ni := some 40) (Nj := some 10) #[true, true, true, true, false, false, false] #[true, true, true, false, false, true, false] rfl rfl rfl rfl (by kernel_rfl) (by decide) (by decide) (fun K hK => ?_) (fun K hK => ?_)
                              · skip
                                refine goes_ Tryd.func12 (by kernel_rfl) rfl #[.slice Ao37 t135.length co37] (by rfl) rfl rfl (by (try simp only [List.map_toArray, List.map_cons, List.map_nil]); first | done | rfl | (simp only [List.length_drop, List.length_take]; rfl)) ?_
                                with_reducible refine (path_Shape.calls k2 _ _ t135 t139 _ ?side1 ?side2 A18.out).mono ?_
                                (case side1 => repeat (first | exact (Kd.R_reads' HO138.out).2.2 | (with_reducible refine Kd.C_alloc ?_ _) | (with_reducible refine Kd.C_drewN ?_ _) | (with_reducible refine Kd.C_drew ?_)))
                                (case side2 => exact (Kd.R_reads' HO138.out).2.1)
                                rintro e w' ⟨rfl, ⟨nd, rfl⟩⟩
                                refine ⟨_, rfl, ?_⟩
                                refine hK.out _ _ ⟨(blk_cell BK134.out 0).trans rfl, (blk_cell BK134.out 1).trans rfl, (blk_cell BK134.out 2).trans rfl⟩ (fun hHeld => ?_)
                                clear hK K
                                refine norm_ (a' := ?_) ?_ ?_
                                rotate_left
                                · show Act.put _ (some 40) _ = _
                                  simp only [Act.put, List.setIfInBounds_toArray, List.set_cons_zero, List.set_cons_succ, i64_w, i32_w]
                                  rfl
                                refine pure_ (i := 4) (N := some 41) (v := ?_) (a' := ?_) #[true, true, true, true, true, false, false] rfl rfl (by kernel_rfl) (fun _ _ _ h => h) (Or.inl ⟨by rfl, ?_⟩) ?_ ?_
                                rotate_left
                                · intro w'
                                  go_simp
                                  with_reducible rfl
                                rotate_left
                                · simp only [Act.put, List.setIfInBounds_toArray, List.set_cons_zero, List.set_cons_succ, i64_w, i32_w]
                                  rfl
                                refine one_ (i := 5) (N := some 10) #[true, true, true, true, true, true, false] rfl rfl (by kernel_rfl) (by decide) (fun K hK => ?_)
                                refine box_step ?hg (N := 10) ?hd (cs := #[.string (⟨#[]⟩ : ByteArray), .string (⟨#[]⟩ : ByteArray)]) (t := 52) ?hr ?_; (case hd => rfl); (case hg => rfl); (case hr => first | (go_simp; done) | (go_simp; rfl))
                                intro gb140 hg w39 hbox hb
                                (try (have nM_ := Aside0.mk (MapOwn.below (K := K50) (E := E50) (by (with_reducible repeat (first | apply MapOwn.alloc | apply MapOwn.drewN | apply MapOwn.drew | apply MapOwn.setAny)); exact HM.out) hb); clear HM; have HM := nM_; clear nM_))
                                have n0_ := Aside0.mk (Kd.R_below (by (with_reducible repeat (first | apply Kd.R_alloc | apply Kd.R_drewN | apply Kd.R_drew)); exact HO138.out) hb)
                                have n1_ := Aside0.mk (blk_below (g := gb134) (o := .cells #[.string ((rd_T27 l0 x27_2).f0), .string ((rd_T27 l0 x27_2).f1), .string ((rd_T27 l0 x27_2).f2)] 27 (0, 0)) (by (with_reducible repeat (first | refine blk_drewN ?_ _ | refine blk_drew ?_ | refine blk_alloc ?_ _)); exact BK134.out) hb)
                                have n2_ := Aside0.mk (below_step (by repeat (first | (with_reducible first | exact HB.out | apply below_alloc | apply pw_below_drewN | apply below_drew1 | refine below_set ?_ GE134.out) | exact HB.out)) hb)
                                have n3_ := Aside0.mk (hbox)
                                have n4_ := Aside0.mk ((by rw [hg]; exact (below_size (by repeat (first | (with_reducible first | exact HB.out | apply below_alloc | apply pw_below_drewN | apply below_drew1 | refine below_set ?_ GE134.out) | exact HB.out))) : w.heap.size ≤ gb140))
                                have n5_ := Aside0.mk ((by rw [hg]; exact (below_size (by repeat (first | (with_reducible first | exact HB.out | apply below_alloc | apply pw_below_drewN | apply below_drew1 | refine below_set ?_ GE134.out) | exact HB.out))) : w.heap.size ≤ gb140))
                                have n6_ := Aside0.mk ((by rw [hg]; exact Nat.ne_of_lt (blk_lt (g := gb134) (o := .cells #[.string ((rd_T27 l0 x27_2).f0), .string ((rd_T27 l0 x27_2).f1), .string ((rd_T27 l0 x27_2).f2)] 27 (0, 0)) (by (with_reducible repeat (first | refine blk_drewN ?_ _ | refine blk_drew ?_ | refine blk_alloc ?_ _)); exact BK134.out)) : gb134 ≠ gb140))
                                have n7_ := Aside0.mk ((by rw [hg]; exact Nat.ne_of_gt (blk_lt (g := gb134) (o := .cells #[.string ((rd_T27 l0 x27_2).f0), .string ((rd_T27 l0 x27_2).f1), .string ((rd_T27 l0 x27_2).f2)] 27 (0, 0)) (by (with_reducible repeat (first | refine blk_drewN ?_ _ | refine blk_drew ?_ | refine blk_alloc ?_ _)); exact BK134.out)) : gb140 ≠ gb134))
                                clear HO138
                                clear BK134
                                clear HB
                                have HO138 := n0_
                                have BK134 := n1_
                                have HB := n2_
                                have BK140 := n3_
                                have GW140 := n4_
                                have GE140 := n5_
                                have NB134_140 := n6_
                                have NB140_134 := n7_
                                clear n0_ n1_ n2_ n3_ n4_ n5_ n6_ n7_
                                clear hb hbox hg
                                refine hK.out _ _ ⟨(blk_cell BK134.out 0).trans rfl, (blk_cell BK134.out 1).trans rfl, (blk_cell BK134.out 2).trans rfl⟩ (fun hHeld => ?_)
                                clear hK K
                                refine norm_ (a' := ?_) ?_ ?_
                                rotate_left
                                · show Act.put _ (some 10) _ = _
                                  simp only [Act.put, List.setIfInBounds_toArray, List.set_cons_zero, List.set_cons_succ, i64_w, i32_w]
                                  rfl
                                exact norm_ (by simp only [putAll, Act.put, List.setIfInBounds_toArray, List.set_cons_zero, List.set_cons_succ]) (hCont (gb140) _ ⟨hHeld, (by (with_reducible repeat (first | apply Kd.R_alloc | apply Kd.R_drewN | apply Kd.R_drew)); exact HO138.out), (by (with_reducible repeat (first | refine blk_drewN ?_ _ | refine blk_drew ?_ | refine blk_alloc ?_ _)); exact BK134.out), (by (with_reducible repeat (first | refine blk_drewN ?_ _ | refine blk_drew ?_ | refine blk_alloc ?_ _)); exact BK140.out), GW140.out, GE140.out, NB134_140.out, NB140_134.out, (by repeat (first | (with_reducible first | exact HB.out | apply below_alloc | apply pw_below_drewN | apply below_drew1 | refine below_set ?_ GE134.out | refine below_set ?_ GE140.out) | exact HB.out)), (by (with_reducible repeat (first | apply MapOwn.alloc | apply MapOwn.drewN | apply MapOwn.drew | apply MapOwn.setAny)); exact HM.out)⟩)
                              · skip
                                refine box_step ?hg (N := 10) ?hd (cs := #[.string (⟨#[]⟩ : ByteArray), .string (⟨#[]⟩ : ByteArray)]) (t := 52) ?hr ?_; (case hd => rfl); (case hg => rfl); (case hr => first | (go_simp; done) | (go_simp; rfl))
                                intro gb140 hg w39 hbox hb
                                (try (have nM_ := Aside0.mk (MapOwn.below (K := K50) (E := E50) (by (with_reducible repeat (first | apply MapOwn.alloc | apply MapOwn.drewN | apply MapOwn.drew | apply MapOwn.setAny)); exact HM.out) hb); clear HM; have HM := nM_; clear nM_))
                                have n0_ := Aside0.mk (Kd.R_below (by (with_reducible repeat (first | apply Kd.R_alloc | apply Kd.R_drewN | apply Kd.R_drew)); exact HO138.out) hb)
                                have n1_ := Aside0.mk (blk_below (g := gb134) (o := .cells #[.string ((rd_T27 l0 x27_2).f0), .string ((rd_T27 l0 x27_2).f1), .string ((rd_T27 l0 x27_2).f2)] 27 (0, 0)) (by (with_reducible repeat (first | refine blk_drewN ?_ _ | refine blk_drew ?_ | refine blk_alloc ?_ _)); exact BK134.out) hb)
                                have n2_ := Aside0.mk (below_step (by repeat (first | (with_reducible first | exact HB.out | apply below_alloc | apply pw_below_drewN | apply below_drew1 | refine below_set ?_ GE134.out) | exact HB.out)) hb)
                                have n3_ := Aside0.mk (hbox)
                                have n4_ := Aside0.mk ((by rw [hg]; exact (below_size (by repeat (first | (with_reducible first | exact HB.out | apply below_alloc | apply pw_below_drewN | apply below_drew1 | refine below_set ?_ GE134.out) | exact HB.out))) : w.heap.size ≤ gb140))
                                have n5_ := Aside0.mk ((by rw [hg]; exact (below_size (by repeat (first | (with_reducible first | exact HB.out | apply below_alloc | apply pw_below_drewN | apply below_drew1 | refine below_set ?_ GE134.out) | exact HB.out))) : w.heap.size ≤ gb140))
                                have n6_ := Aside0.mk ((by rw [hg]; exact Nat.ne_of_lt (blk_lt (g := gb134) (o := .cells #[.string ((rd_T27 l0 x27_2).f0), .string ((rd_T27 l0 x27_2).f1), .string ((rd_T27 l0 x27_2).f2)] 27 (0, 0)) (by (with_reducible repeat (first | refine blk_drewN ?_ _ | refine blk_drew ?_ | refine blk_alloc ?_ _)); exact BK134.out)) : gb134 ≠ gb140))
                                have n7_ := Aside0.mk ((by rw [hg]; exact Nat.ne_of_gt (blk_lt (g := gb134) (o := .cells #[.string ((rd_T27 l0 x27_2).f0), .string ((rd_T27 l0 x27_2).f1), .string ((rd_T27 l0 x27_2).f2)] 27 (0, 0)) (by (with_reducible repeat (first | refine blk_drewN ?_ _ | refine blk_drew ?_ | refine blk_alloc ?_ _)); exact BK134.out)) : gb140 ≠ gb134))
                                clear HO138
                                clear BK134
                                clear HB
                                have HO138 := n0_
                                have BK134 := n1_
                                have HB := n2_
                                have BK140 := n3_
                                have GW140 := n4_
                                have GE140 := n5_
                                have NB134_140 := n6_
                                have NB140_134 := n7_
                                clear n0_ n1_ n2_ n3_ n4_ n5_ n6_ n7_
                                clear hb hbox hg
                                refine hK.out _ _ ⟨(blk_cell BK134.out 0).trans rfl, (blk_cell BK134.out 1).trans rfl, (blk_cell BK134.out 2).trans rfl⟩ (fun hHeld => ?_)
                                clear hK K
                                refine norm_ (a' := ?_) ?_ ?_
                                rotate_left
                                · show Act.put _ (some 10) _ = _
                                  simp only [Act.put, List.setIfInBounds_toArray, List.set_cons_zero, List.set_cons_succ, i64_w, i32_w]
                                  rfl
                                refine one_ (i := 3) (N := some 40) #[true, true, true, true, false, true, false] rfl rfl (by kernel_rfl) (by decide) (fun K hK => ?_)
                                refine goes_ Tryd.func12 (by kernel_rfl) rfl #[.slice Ao37 t135.length co37] (by rfl) rfl rfl (by (try simp only [List.map_toArray, List.map_cons, List.map_nil]); first | done | rfl | (simp only [List.length_drop, List.length_take]; rfl)) ?_
                                with_reducible refine (path_Shape.calls k2 _ _ t135 t139 _ ?side1 ?side2 A18.out).mono ?_
                                (case side1 => repeat (first | exact (Kd.R_reads' HO138.out).2.2 | (with_reducible refine Kd.C_alloc ?_ _) | (with_reducible refine Kd.C_drewN ?_ _) | (with_reducible refine Kd.C_drew ?_)))
                                (case side2 => exact (Kd.R_reads' HO138.out).2.1)
                                rintro e w' ⟨rfl, ⟨nd, rfl⟩⟩
                                refine ⟨_, rfl, ?_⟩
                                refine hK.out _ _ ⟨(blk_cell BK134.out 0).trans rfl, (blk_cell BK134.out 1).trans rfl, (blk_cell BK134.out 2).trans rfl⟩ (fun hHeld => ?_)
                                clear hK K
                                refine norm_ (a' := ?_) ?_ ?_
                                rotate_left
                                · show Act.put _ (some 40) _ = _
                                  simp only [Act.put, List.setIfInBounds_toArray, List.set_cons_zero, List.set_cons_succ, i64_w, i32_w]
                                  rfl
                                refine pure_ (i := 4) (N := some 41) (v := ?_) (a' := ?_) #[true, true, true, true, true, true, false] rfl rfl (by kernel_rfl) (fun _ _ _ h => h) (Or.inl ⟨by rfl, ?_⟩) ?_ ?_
                                rotate_left
                                · intro w'
                                  go_simp
                                  with_reducible rfl
                                rotate_left
                                · simp only [Act.put, List.setIfInBounds_toArray, List.set_cons_zero, List.set_cons_succ, i64_w, i32_w]
                                  rfl
                                exact norm_ (by simp only [putAll, Act.put, List.setIfInBounds_toArray, List.set_cons_zero, List.set_cons_succ]) (hCont (gb140) _ ⟨hHeld, (by (with_reducible repeat (first | apply Kd.R_alloc | apply Kd.R_drewN | apply Kd.R_drew)); exact HO138.out), (by (with_reducible repeat (first | refine blk_drewN ?_ _ | refine blk_drew ?_ | refine blk_alloc ?_ _)); exact BK134.out), (by (with_reducible repeat (first | refine blk_drewN ?_ _ | refine blk_drew ?_ | refine blk_alloc ?_ _)); exact BK140.out), GW140.out, GE140.out, NB134_140.out, NB140_134.out, (by repeat (first | (with_reducible first | exact HB.out | apply below_alloc | apply pw_below_drewN | apply below_drew1 | refine below_set ?_ GE134.out | refine below_set ?_ GE140.out) | exact HB.out)), (by (with_reducible repeat (first | apply MapOwn.alloc | apply MapOwn.drewN | apply MapOwn.drew | apply MapOwn.setAny)); exact HM.out)⟩)
                            rintro gb140 w40 ⟨hS_, h0_, h1_, h2_, h3_, h4_, h5_, h6_, h7_, hM_⟩
                            clear HM
                            have HM := Aside0.mk hM_
                            clear hM_
                            have n0_ : Aside0 (Kd.R Kd.string 9 w40 w.heap.size (fun _ => True) (.slice Ao37 t135.length co37) t135) := ⟨h0_⟩
                            have n1_ : Aside0 (w40.heap[gb134]? = some (.cells #[.string ((rd_T27 l0 x27_2).f0), .string ((rd_T27 l0 x27_2).f1), .string ((rd_T27 l0 x27_2).f2)] 27 (0, 0))) := ⟨h1_⟩
                            have n2_ : Aside0 (w40.heap[gb140]? = some (.cells #[.string (⟨#[]⟩ : ByteArray), .string (⟨#[]⟩ : ByteArray)] 52 (0, 0))) := ⟨h2_⟩
                            have n3_ : Aside0 (w.heap.size ≤ gb140) := ⟨h3_⟩
                            have n4_ : Aside0 (w.heap.size ≤ gb140) := ⟨h4_⟩
                            have n5_ : Aside0 (gb134 ≠ gb140) := ⟨h5_⟩
                            have n6_ : Aside0 (gb140 ≠ gb134) := ⟨h6_⟩
                            have n7_ : Aside0 (Below w.heap.size w w40) := ⟨h7_⟩
                            clear HO138
                            clear BK134
                            clear HB
                            clear h0_ h1_ h2_ h3_ h4_ h5_ h6_ h7_
                            have HO138 := n0_
                            have BK134 := n1_
                            have BK140 := n2_
                            have GW140 := n3_
                            have GE140 := n4_
                            have NB134_140 := n5_
                            have NB140_134 := n6_
                            have HB := n7_
                            clear n0_ n1_ n2_ n3_ n4_ n5_ n6_ n7_
                            have hHeld : w40.cell? ⟨gb134, 0, none⟩ = some (.string ((rd_T27 l0 x27_2).f0)) ∧ w40.cell? ⟨gb134, 1, none⟩ = some (.string ((rd_T27 l0 x27_2).f1)) ∧ w40.cell? ⟨gb134, 2, none⟩ = some (.string ((rd_T27 l0 x27_2).f2)) := hS_
                            refine norm_ (a' := ?_) ?_ ?_
                            rotate_left
                            · simp only [putAll, Act.put, List.setIfInBounds_toArray, List.set_cons_zero, List.set_cons_succ]
                              rfl
                            refine one_ (i := 6) (N := none) #[true, true, true, true, true, true, true] rfl rfl (by kernel_rfl) (by decide) (fun K hK => ?_)
                            have hs41 : w40.cell? ⟨gb140, 0, none⟩ = some (.string (⟨#[]⟩ : ByteArray)) := (blk_cell BK140.out 0).trans rfl
                            have hfs41 := blk_frozen BK140.out 0
                            have hns41_0 := NB134_140.out
                            have hms41_0 := NB140_134.out
                            have hs42 : w40.cell? ⟨gb140, 1, none⟩ = some (.string (⟨#[]⟩ : ByteArray)) := (blk_cell BK140.out 1).trans rfl
                            have hfs42 := blk_frozen BK140.out 1
                            have hns42_0 := NB134_140.out
                            have hms42_0 := NB140_134.out
                            refine skip_ (w1 := ?_) (by rfl) rfl ?_ ?_
                            rotate_left
                            · go_simp
                              rfl
                            refine hK.out _ _ ⟨((cell_far (p := ⟨gb140, _, none⟩) NB134_140.out _).trans (((cell_far (p := ⟨gb140, _, none⟩) NB134_140.out _).trans (hHeld.1)))), ((cell_far (p := ⟨gb140, _, none⟩) NB134_140.out _).trans (((cell_far (p := ⟨gb140, _, none⟩) NB134_140.out _).trans (hHeld.2.1)))), ((cell_far (p := ⟨gb140, _, none⟩) NB134_140.out _).trans (((cell_far (p := ⟨gb140, _, none⟩) NB134_140.out _).trans (hHeld.2.2))))⟩ (fun hHeld => ?_)
                            clear hK K
                            refine done_ (by kernel_rfl) ?_
                            have hnb43 := NB140_134.out
                            have hnc43 := NB134_140.out
                            have hcz44_0 : w40.cell? ⟨gb140, 0, none⟩ = some (.string (⟨#[]⟩ : ByteArray)) := (blk_cell BK140.out 0).trans rfl
                            have hcz44_1 : w40.cell? ⟨gb140, 1, none⟩ = some (.string (⟨#[]⟩ : ByteArray)) := (blk_cell BK140.out 1).trans rfl
                            have hfz44_0 := blk_frozen BK140.out 0
                            have hfz44_1 := blk_frozen BK140.out 1
                            try go_wp2_with (first | (at_lookup; (try (refine gate_guard (by rfl) ?_; dsimp only)); refine wpList_lookup_pair_bool (base := w.heap.size) pk50 z50 _ Tryd.underlying4 rfl _ _ 50 rfl Tryd.underlying50 _ _ (by first | assumption | exact of_decide_eq_true (by first | (with_reducible assumption) | assumption)) (by first | assumption | exact of_decide_eq_true (by first | (with_reducible assumption) | assumption)) rfl rfl (by (with_reducible repeat (first | apply MapOwn.alloc | apply MapOwn.drewN | apply MapOwn.drew | apply MapOwn.setAny)); exact HM.out) ?_; (try rw [c21b0])) | (at_mapUpdate; (try (refine gate_guard (by rfl) ?_; dsimp only)); refine wpList_mapUpdate_pair_bool (base := w.heap.size) pk50 z50 Tryd.underlying4 _ rfl _ _ _ 50 rfl Tryd.underlying50 _ _ _ (by first | assumption | exact of_decide_eq_true (by first | (with_reducible assumption) | assumption)) (by first | assumption | exact of_decide_eq_true (by first | (with_reducible assumption) | assumption)) rfl rfl rfl (by (with_reducible repeat (first | apply MapOwn.alloc | apply MapOwn.drewN | apply MapOwn.drew | apply MapOwn.setAny)); exact HM.out) (by first | assumption | exact of_decide_eq_true (by first | (with_reducible assumption) | assumption)) ?_; intro wM_ hm_ hg_; have nB_ := Aside0.mk (below_mapped (by repeat (first | (with_reducible first | exact HB.out | apply below_alloc | apply pw_below_drewN | apply below_drew1 | refine below_set ?_ (Aside0.out (by assumption))) | exact HB.out)) (by (with_reducible repeat (first | apply MapOwn.alloc | apply MapOwn.drewN | apply MapOwn.drew | apply MapOwn.setAny)); exact HM.out : MapOwn K50 E50 _ w.heap.size _ _) (Nat.le_refl _) hg_); clear HB HM ; have HM := Aside0.mk hm_; have HB := nB_; clear nB_ hm_ hg_))
                            go_roundg k2
                            case measure => have := HK1.out; have := HK2.out; omega
                            case rel => exact ⟨(((((rd_T27 l0 x27_2).f0, t139) : ByteArray × ByteArray), true) :: x3_2), (wrap64 (x27_2 + 1)), (by first | rfl | (simp; done) | (simp [*]; done)), H', ⟨by have := HK1.out; have := HK2.out; omega⟩, ⟨by (with_reducible repeat (first | apply MapOwn.alloc | apply MapOwn.drewN | apply MapOwn.drew | apply MapOwn.setAny)); exact HM.out⟩, ⟨by repeat (first | (with_reducible first | exact HB.out | apply below_alloc | apply pw_below_drewN | apply below_drew1 | refine below_set ?_ GE134.out | refine below_set ?_ GE140.out) | exact HB.out)⟩⟩
                          · rw [if_neg c33] at H
                            exact absurd H (by simp)
                      · rw [if_neg c20] at H
                        exact absurd H (by simp)
                    · rw [if_neg c19] at H
                      exact absurd H (by simp)
                  · rw [if_neg c16] at H
                    exact absurd H (by simp)
                · rw [if_neg c15] at H
                  exact absurd H (by simp)
              · rw [if_neg c14] at H
                have c14b0 : decide (x27_2 < (l0.length : Int)) = false := decide_eq_false c14
                clear c14
                obtain rfl := Option.some.inj H
                go_wp2_with (first | (at_lookup; (try (refine gate_guard (by rfl) ?_; dsimp only)); refine wpList_lookup_pair_bool (base := w.heap.size) pk50 z50 _ Tryd.underlying4 rfl _ _ 50 rfl Tryd.underlying50 _ _ (by first | assumption | exact of_decide_eq_true (by first | (with_reducible assumption) | assumption)) (by first | assumption | exact of_decide_eq_true (by first | (with_reducible assumption) | assumption)) rfl rfl (by (with_reducible repeat (first | apply MapOwn.alloc | apply MapOwn.drewN | apply MapOwn.drew | apply MapOwn.setAny)); exact HM.out) ?_) | (at_mapUpdate; (try (refine gate_guard (by rfl) ?_; dsimp only)); refine wpList_mapUpdate_pair_bool (base := w.heap.size) pk50 z50 Tryd.underlying4 _ rfl _ _ _ 50 rfl Tryd.underlying50 _ _ _ (by first | assumption | exact of_decide_eq_true (by first | (with_reducible assumption) | assumption)) (by first | assumption | exact of_decide_eq_true (by first | (with_reducible assumption) | assumption)) rfl rfl rfl (by (with_reducible repeat (first | apply MapOwn.alloc | apply MapOwn.drewN | apply MapOwn.drew | apply MapOwn.setAny)); exact HM.out) (by first | assumption | exact of_decide_eq_true (by first | (with_reducible assumption) | assumption)) ?_; intro wM_ hm_ hg_; have nB_ := Aside0.mk (below_mapped (by repeat (first | (with_reducible first | exact HB.out | apply below_alloc | apply pw_below_drewN | apply below_drew1 | refine below_set ?_ (Aside0.out (by assumption))) | exact HB.out)) (by (with_reducible repeat (first | apply MapOwn.alloc | apply MapOwn.drewN | apply MapOwn.drew | apply MapOwn.setAny)); exact HM.out : MapOwn K50 E50 _ w.heap.size _ _) (Nat.le_refl _) hg_); clear HB HM ; have HM := Aside0.mk hm_; have HB := nB_; clear nB_ hm_ hg_))
                go_ret
                exact ⟨by first | rfl | (simp [errW_none, errW_some] <;> rfl) | (simp [*, errW_none, errW_some] <;> rfl), by repeat (first | (with_reducible first | exact HB.out | apply below_alloc | apply pw_below_drewN | apply below_drew1) | exact HB.out)⟩

end Go.Proofs.YtidkhbkndbnnjaaDoor.X

-- Made smaller by wip/squeeze.py out of this claim's texts. Not trusted: Lean checks it.
import Derived.Test.YtldaingkcnmaoaaDoorXSeedT
import Derived.Test.YtldaingkcnmaoaaDoorX17
namespace Go.Proofs.YtldaingkcnmaoaaDoor.X
open Go.RowKit Go.Proofs.YtldaingkcnmaoaaDoorW.PrintWords Go.Proofs.YtldaingkcnmaoaaDoorW.PrintLast Go.Proofs.YtldaingkcnmaoaaDoorW.PrintMore
attribute [local go_sem] max2_int min2_int max_two min_two max_three min_three max_four min_four
set_option linter.unusedVariables false
set_option linter.unusedSimpArgs false
def crossroadlaw04_CutterLines.l0 : Nat → Int → List Int → List Int → List Int → Int → Int → Option (Bool)
 | 0, _, _, _, _, _, _ => none
 | k + 1, x1, x5, x6, x24, x25, x26 => if x26 < x25 then (if 0 ≤ x26 then (if x26 < (x24.length : Int) then (if (rd x24 x26) = 13 then (if x6.length < 17592186044416 then (crossroadlaw04_CutterLines.l0 k x1 x5 (x6 ++ [x26]) x24 x25 (wrap64 (x26 + 1))) else (none)) else (crossroadlaw04_CutterLines.l0 k x1 x5 x6 x24 x25 (wrap64 (x26 + 1)))) else (none)) else (none)) else (if (x6.length : Int) = 0 then (some false) else (if 0 ≤ (Int.tmod (Go.bits .and .i64 x1 65535) (x6.length : Int)) then (if (Int.tmod (Go.bits .and .i64 x1 65535) (x6.length : Int)) < (x6.length : Int) then (if 0 ≤ (rd x6 (Int.tmod (Go.bits .and .i64 x1 65535) (x6.length : Int))) then (if (rd x6 (Int.tmod (Go.bits .and .i64 x1 65535) (x6.length : Int))) ≤ (x5.length : Int) then ((some (x5.take ((rd x6 (Int.tmod (Go.bits .and .i64 x1 65535) (x6.length : Int))) : Int).toNat : List Int)).bind fun y338 => (if ([] : List Int).length + y338.length < 140737488355328 then ((some (([] : List Int) ++ y338 : List Int)).bind fun y343 => (if 0 ≤ (wrap64 ((rd x6 (Int.tmod (Go.bits .and .i64 x1 65535) (x6.length : Int))) + 1)) then (if (wrap64 ((rd x6 (Int.tmod (Go.bits .and .i64 x1 65535) (x6.length : Int))) + 1)) ≤ (x5.length : Int) then ((some (x5.drop ((wrap64 ((rd x6 (Int.tmod (Go.bits .and .i64 x1 65535) (x6.length : Int))) + 1)) : Int).toNat : List Int)).bind fun y346 => (if y343.length + y346.length < 140737488355328 then (if ([] : List Int).length + x5.length < 140737488355328 then ((some (([] : List Int) ++ x5 : List Int)).bind fun y354 => (if y354.length < 140737488355328 then ((some (y354 ++ [120] : List Int)).bind fun y357 => (if (wrap64 ((rd x6 (Int.tmod (Go.bits .and .i64 x1 65535) (x6.length : Int))) + 1)) < (y357.length : Int) then ((cutter_All.f k (strOfNums (y343 ++ y346))).bind fun bt361 => ((cutter_All.f k (strOfNums (y357.set ((wrap64 ((rd x6 (Int.tmod (Go.bits .and .i64 x1 65535) (x6.length : Int))) + 1)) : Int).toNat 120))).bind fun bt365 => (if bt361.2 = 400 then (some (bt365.2 == 400)) else (some false)))) else (none))) else (none))) else (none)) else (none))) else (none)) else (none))) else (none))) else (none)) else (none)) else (none)) else (none)))
def crossroadlaw04_CutterLines.f (k : Nat) (a0_0 : Int) (a0_1 : Int) (a0_2 : Int) (a0_3 : Int) (a0_4 : Int) (a0_5 : Bool) (a0_6 : Int) (a1 : Int) : Option (Bool) := (crossroadlaw04_fit.f k).bind fun t328 => (if t328 = true then ((crossroadlaw04_Seed_Text.f k a0_0 a0_1 0 a0_3 0 a0_5 0).bind fun t329 => (if t329.size ≤ 9223372036854775807 then ((some (bytesOf t329 : List Int)).bind fun y330 => (crossroadlaw04_CutterLines.l0 k a1 y330 ([] : List Int) y330 (y330.length : Int) 0)) else (none))) else (some false))
theorem crossroadlaw04_CutterLines.mono_l : ∀ k, (∀ y0 y1 y2 y3 y4 y5, LeO (crossroadlaw04_CutterLines.l0 k y0 y1 y2 y3 y4 y5) (crossroadlaw04_CutterLines.l0 (k + 1) y0 y1 y2 y3 y4 y5))
 | 0 => fun _ _ _ _ _ _ r h => by simp [crossroadlaw04_CutterLines.l0] at h
 | k + 1 => by
  have ih0 := crossroadlaw04_CutterLines.mono_l k
  · intro y0 y1 y2 y3 y4 y5
    unfold crossroadlaw04_CutterLines.l0
    repeat' first
    | (with_reducible exact ih0 _ _ _ _ _ _)
    | (with_reducible exact crossroadlaw04_Seed_Text.mono _ _ _ _ _ _ _ _)
    | (with_reducible exact crossroadlaw04_fit.mono _)
    | (with_reducible exact cutter_All.mono _ _)
    | (with_reducible exact LeO.refl _)
    | (with_reducible exact LeO.none _)
    | (with_reducible refine LeO.ite ?_ ?_)
    | (with_reducible refine LeO.bind ?_ (fun _ => ?_))
    | exact ih0 _ _ _ _ _ _
    | exact crossroadlaw04_Seed_Text.mono _ _ _ _ _ _ _ _
    | exact crossroadlaw04_fit.mono _
    | exact cutter_All.mono _ _
    | exact LeO.none _
    | refine LeO.ite ?_ ?_
    | refine LeO.bind ?_ (fun _ => ?_)
theorem crossroadlaw04_CutterLines.mono : ∀ a0 a1 a2 a3 a4 a5 a6 a7 k, LeO (crossroadlaw04_CutterLines.f k a0 a1 a2 a3 a4 a5 a6 a7) (crossroadlaw04_CutterLines.f (k + 1) a0 a1 a2 a3 a4 a5 a6 a7) := by
 intro a0 a1 a2 a3 a4 a5 a6 a7 k
 have ih0 := crossroadlaw04_CutterLines.mono_l k
 unfold crossroadlaw04_CutterLines.f
 repeat' first
     | (with_reducible exact ih0 _ _ _ _ _ _)
     | (with_reducible exact crossroadlaw04_Seed_Text.mono _ _ _ _ _ _ _ _)
     | (with_reducible exact crossroadlaw04_fit.mono _)
     | (with_reducible exact cutter_All.mono _ _)
     | (with_reducible exact LeO.refl _)
     | (with_reducible exact LeO.none _)
     | (with_reducible refine LeO.ite ?_ ?_)
     | (with_reducible refine LeO.bind ?_ (fun _ => ?_))
     | exact ih0 _ _ _ _ _ _
     | exact crossroadlaw04_Seed_Text.mono _ _ _ _ _ _ _ _
     | exact crossroadlaw04_fit.mono _
     | exact cutter_All.mono _ _
     | exact LeO.none _
     | refine LeO.ite ?_ ?_
     | refine LeO.bind ?_ (fun _ => ?_)
def crossroadlaw04_CutterLines.T15 : Bool × List (List Nat × List Nat) := (true, [([], []), ([], []), ([0, 1], [0, 1]), ([2], [2]), ([], []), ([], []), ([5], [5]), ([4, 6], [4, 6]), ([3, 7, 3], [3, 7]), ([8, 8, 0, 1, 2, 3, 4, 5, 6, 7, 8], [8])])
def crossroadlaw04_CutterLines.B15 : List Nat := [0, 0, 3, 7, 0, 0, 32, 112, 255, 511]
theorem crossroadlaw04_CutterLines.tab15 : rtab .any (opsOf Tryd.f6 15) = crossroadlaw04_CutterLines.T15 := by kernel_rfl
theorem crossroadlaw04_CutterLines.bits15 : waitsOk crossroadlaw04_CutterLines.T15.2 crossroadlaw04_CutterLines.B15 = true := by kernel_rfl
set_option maxHeartbeats 8000000 in
set_option maxRecDepth 100000 in
theorem crossroadlaw04_CutterLines.calls (k : Nat) (a0_0 : Int) (a0_1 : Int) (a0_2 : Int) (a0_3 : Int) (a0_4 : Int) (a0_5 : Bool) (a0_6 : Int) (a1 : Int) (r : Bool) (w : World) (h : crossroadlaw04_CutterLines.f k a0_0 a0_1 a0_2 a0_3 a0_4 a0_5 a0_6 a1 = some r) (hG : GlobOK w) :
    Calls Tryd.prog 6 #[.agg #[.int .i64 a0_0, .int .i64 a0_1, .int .i64 a0_2, .int .i64 a0_3, .int .i64 a0_4, .bool a0_5, .int .i64 a0_6], .int .i64 a1] w fun e w' => e = .returned (.bool r) ∧ Below w.heap.size w w' := by
 have hu23 := Tryd.underlying23
 have HG := Aside0.mk hG
 clear hG
 have HB := Aside0.mk (Below.refl w.heap.size w)
 have H : ((crossroadlaw04_fit.f k).bind fun t328 => (if t328 = true then ((crossroadlaw04_Seed_Text.f k a0_0 a0_1 0 a0_3 0 a0_5 0).bind fun t329 => (if t329.size ≤ 9223372036854775807 then ((some (bytesOf t329 : List Int)).bind fun y330 => (crossroadlaw04_CutterLines.l0 k a1 y330 ([] : List Int) y330 (y330.length : Int) 0)) else (none))) else (some false))) = some r := h
 clear h
 replace H := Option.bind_eq_some_iff.mp H
 obtain ⟨t328, A30, H⟩ := H
 replace H : (if t328 = true then ((crossroadlaw04_Seed_Text.f k a0_0 a0_1 0 a0_3 0 a0_5 0).bind fun t329 => (if t329.size ≤ 9223372036854775807 then ((some (bytesOf t329 : List Int)).bind fun y330 => (crossroadlaw04_CutterLines.l0 k a1 y330 ([] : List Int) y330 (y330.length : Int) 0)) else (none))) else (some false)) = some r := H
 have A3 := Aside0.mk A30
 clear A30
 by_cases c4 : t328 = true
 · subst c4
   have H1 : ((crossroadlaw04_Seed_Text.f k a0_0 a0_1 0 a0_3 0 a0_5 0).bind fun t329 => (if t329.size ≤ 9223372036854775807 then ((some (bytesOf t329 : List Int)).bind fun y330 => (crossroadlaw04_CutterLines.l0 k a1 y330 ([] : List Int) y330 (y330.length : Int) 0)) else (none))) = some r := by rw [if_pos rfl] at H; exact H
   clear H
   have H := H1
   clear H1
   replace H := Option.bind_eq_some_iff.mp H
   obtain ⟨t329, A50, H⟩ := H
   replace H : (if t329.size ≤ 9223372036854775807 then ((some (bytesOf t329 : List Int)).bind fun y330 => (crossroadlaw04_CutterLines.l0 k a1 y330 ([] : List Int) y330 (y330.length : Int) 0)) else (none)) = some r := H
   have A5 := Aside0.mk A50
   clear A50
   by_cases c6 : t329.size ≤ 9223372036854775807
   · rw [if_pos c6] at H
     have LMc6 := Aside0.mk c6
     clear c6
     obtain ⟨y330, hy330⟩ : ∃ y_ : List Int, y_ = (bytesOf t329) := ⟨_, rfl⟩
     replace H : (crossroadlaw04_CutterLines.l0 k a1 y330 ([] : List Int) y330 (y330.length : Int) 0) = some r := by first | (rw [hy330]; with_reducible exact H) | (have H2_ := (Option.bind_some _ _).symm.trans H; rw [hy330]; with_reducible exact H2_) | (have H2_ := (Option.bind_some _ _).symm.trans H; with_reducible exact H2_) | with_reducible exact H | (rw [hy330]; exact H) | exact H
     have Ny330 := Aside0.mk hy330
     clear hy330
     have H' := Aside0.mk H
     clear H
     go_enter Tryd.func6, Tryd.ntmps6
     go_wp2_with (first | ((with_reducible refine gate_dst (N := 2) rfl ?_); refine box_event ?hg (N := 2) ?hd (cs := #[.int .i64 a0_0, .int .i64 a0_1, .int .i64 a0_2, .int .i64 a0_3, .int .i64 a0_4, .bool a0_5, .int .i64 a0_6]) (t := 23) ?hr ?_; (case hd => rfl); (case hg => rfl); (case hr => first | (go_simp; done) | (go_simp; rfl)); intro gb327 hg w7 hbox hb; have n0_ := Aside0.mk (below_step (by repeat (first | (with_reducible first | exact HB.out | apply below_alloc | apply pw_below_drewN | apply below_drew1) | exact HB.out)) hb); have n1_ := Aside0.mk (hbox); have n2_ := Aside0.mk ((by rw [hg]; exact (below_size (by repeat (first | (with_reducible first | exact HB.out | apply below_alloc | apply pw_below_drewN | apply below_drew1) | exact HB.out))) : w.heap.size ≤ gb327)); have n3_ := Aside0.mk ((by rw [hg]; exact (below_size (by repeat (first | (with_reducible first | exact HB.out | apply below_alloc | apply pw_below_drewN | apply below_drew1) | exact HB.out))) : w.heap.size ≤ gb327)); clear HB; have HB := n0_; have BK327 := n1_; have GW327 := n2_; have GE327 := n3_; clear n0_ n1_ n2_ n3_; clear hb hbox hg) | ((with_reducible refine gate_callee (f := 8) rfl ?_); refine goesL_ (some 16) rfl rfl Tryd.func8 (by kernel_rfl) rfl #[] rfl (by (try simp only [List.map_toArray, List.map_cons, List.map_nil]); first | done | rfl | (simp only [List.length_drop, List.length_take]; rfl)) ?_; (with_reducible refine (crossroadlaw04_fit.calls k  true _ A3.out).mono ?_); rintro e w8 ⟨rfl, hb⟩; refine ⟨_, rfl, ?_⟩; have n0_ := Aside0.mk (blk_below (g := gb327) (o := .cells #[.int .i64 a0_0, .int .i64 a0_1, .int .i64 a0_2, .int .i64 a0_3, .int .i64 a0_4, .bool a0_5, .int .i64 a0_6] 23 (0, 0)) (by (with_reducible repeat (first | refine blk_drewN ?_ _ | refine blk_drew ?_ | refine blk_alloc ?_ _)); exact BK327.out) hb); have n1_ := Aside0.mk (below_step (by repeat (first | (with_reducible first | exact HB.out | apply below_alloc | apply pw_below_drewN | apply below_drew1 | refine below_set ?_ GE327.out) | exact HB.out)) hb); clear BK327; clear HB; have BK327 := n0_; have HB := n1_; clear n0_ n1_; (try clear hb); (try clear hb2); (try clear hk); (try clear hi); have hcz9_0 : w8.cell? ⟨gb327, 0, none⟩ = some (.int .i64 a0_0) := (blk_cell BK327.out 0).trans rfl; have hcz9_1 : w8.cell? ⟨gb327, 1, none⟩ = some (.int .i64 a0_1) := (blk_cell BK327.out 1).trans rfl; have hcz9_2 : w8.cell? ⟨gb327, 2, none⟩ = some (.int .i64 a0_2) := (blk_cell BK327.out 2).trans rfl; have hcz9_3 : w8.cell? ⟨gb327, 3, none⟩ = some (.int .i64 a0_3) := (blk_cell BK327.out 3).trans rfl; have hcz9_4 : w8.cell? ⟨gb327, 4, none⟩ = some (.int .i64 a0_4) := (blk_cell BK327.out 4).trans rfl; have hcz9_5 : w8.cell? ⟨gb327, 5, none⟩ = some (.bool a0_5) := (blk_cell BK327.out 5).trans rfl; have hcz9_6 : w8.cell? ⟨gb327, 6, none⟩ = some (.int .i64 a0_6) := (blk_cell BK327.out 6).trans rfl; have hfz9_0 := blk_frozen BK327.out 0; have hfz9_1 := blk_frozen BK327.out 1; have hfz9_2 := blk_frozen BK327.out 2; have hfz9_3 := blk_frozen BK327.out 3; have hfz9_4 := blk_frozen BK327.out 4; have hfz9_5 := blk_frozen BK327.out 5; have hfz9_6 := blk_frozen BK327.out 6) | ((with_reducible refine gate_callee (f := 10) rfl ?_); refine goesL_ (some 22) rfl rfl Tryd.func10 (by kernel_rfl) rfl #[.agg #[.int .i64 a0_0, .int .i64 a0_1, .int .i64 0, .int .i64 a0_3, .int .i64 0, .bool a0_5, .int .i64 0]] rfl (by (try simp only [List.map_toArray, List.map_cons, List.map_nil]); first | done | rfl | (simp only [List.length_drop, List.length_take]; rfl)) ?_; (with_reducible refine (crossroadlaw04_Seed_Text.calls k a0_0 a0_1 0 a0_3 0 a0_5 0 t329 _ A5.out ?glob9).mono ?_); (case glob9 => exact GlobOK.below HG.out (by repeat (first | (with_reducible first | exact HB.out | apply below_alloc | apply pw_below_drewN | apply below_drew1 | refine below_set ?_ (Aside0.out (by assumption))) | exact HB.out)) rfl); rintro e w10 ⟨rfl, hb⟩; refine ⟨_, rfl, ?_⟩; have n0_ := Aside0.mk (blk_below (g := gb327) (o := .cells #[.int .i64 a0_0, .int .i64 a0_1, .int .i64 0, .int .i64 a0_3, .int .i64 0, .bool a0_5, .int .i64 0] 23 (0, 0)) (by (with_reducible repeat (first | refine blk_drewN ?_ _ | refine blk_drew ?_ | refine blk_alloc ?_ _)); refine blk_put (cs := #[.int .i64 a0_0, .int .i64 a0_1, .int .i64 a0_2, .int .i64 a0_3, .int .i64 0, .bool a0_5, .int .i64 0]) ?_ 2 _ rfl; (with_reducible repeat (first | refine blk_drewN ?_ _ | refine blk_drew ?_ | refine blk_alloc ?_ _)); refine blk_put (cs := #[.int .i64 a0_0, .int .i64 a0_1, .int .i64 a0_2, .int .i64 a0_3, .int .i64 a0_4, .bool a0_5, .int .i64 0]) ?_ 4 _ rfl; (with_reducible repeat (first | refine blk_drewN ?_ _ | refine blk_drew ?_ | refine blk_alloc ?_ _)); refine blk_put (cs := #[.int .i64 a0_0, .int .i64 a0_1, .int .i64 a0_2, .int .i64 a0_3, .int .i64 a0_4, .bool a0_5, .int .i64 a0_6]) ?_ 6 _ rfl; (with_reducible repeat (first | refine blk_drewN ?_ _ | refine blk_drew ?_ | refine blk_alloc ?_ _)); exact BK327.out) hb); have n1_ := Aside0.mk (below_step (by repeat (first | (with_reducible first | exact HB.out | apply below_alloc | apply pw_below_drewN | apply below_drew1 | refine below_set ?_ GE327.out) | exact HB.out)) hb); clear BK327; clear HB; have BK327 := n0_; have HB := n1_; clear n0_ n1_; (try clear hb); (try clear hb2); (try clear hk); (try clear hi)) | ((with_reducible refine gate_dst (N := 23) rfl ?_); refine Kd.V_conv _ 5 rfl (N := 23) rfl 9 46 (.tmp 22) rfl t329 rfl Tryd.underlying9 Tryd.underlying46 Tryd.underlying5 (ok := fun k_ => w10.heap.size ≤ k_) (Nat.le_refl _) ?lm (Below.refl _ _) (Nat.le_refl _) ?_; (case lm => have := LMc6.out; omega); intro v331 w11 ho12 hb hg_ hnew_; clear hg_ hnew_; (first | rw [← Ny330.out] at ho12 | (simp only [Int.reduceToNat] at ho12; rw [← Ny330.out] at ho12)); have n0_ := Aside0.mk (Kd.V_lower (Kd.V_mono (ok' := fun k_ => k_ ≠ gb327) ho12 (fun k_ hk_ => (Kd.freshB (g := gb327) (o := .cells #[.int .i64 a0_0, .int .i64 a0_1, .int .i64 0, .int .i64 a0_3, .int .i64 0, .bool a0_5, .int .i64 0] 23 (0, 0)) (by (with_reducible repeat (first | refine blk_drewN ?_ _ | refine blk_drew ?_ | refine blk_alloc ?_ _)); exact BK327.out) k_ hk_))) (below_size (by repeat (first | (with_reducible first | exact HB.out | apply below_alloc | apply pw_below_drewN | apply below_drew1 | refine below_set ?_ GE327.out) | exact HB.out)))); have n1_ := Aside0.mk (blk_below (g := gb327) (o := .cells #[.int .i64 a0_0, .int .i64 a0_1, .int .i64 0, .int .i64 a0_3, .int .i64 0, .bool a0_5, .int .i64 0] 23 (0, 0)) (by (with_reducible repeat (first | refine blk_drewN ?_ _ | refine blk_drew ?_ | refine blk_alloc ?_ _)); exact BK327.out) hb); have n2_ := Aside0.mk (below_step (by repeat (first | (with_reducible first | exact HB.out | apply below_alloc | apply pw_below_drewN | apply below_drew1 | refine below_set ?_ GE327.out) | exact HB.out)) hb); clear BK327; clear HB; have HO332 := n0_; have BK327 := n1_; have HB := n2_; clear n0_ n1_ n2_; clear hb ho12; obtain ⟨Ao13, co13, eo13⟩ := Kd.V_slice HO332.out; subst eo13))
     go_loopg [6, 26] k (fun kq v6 v26 w' => ∃ (x6_1 : List Int) (x26_1 : Int), v26 = .int .i64 x26_1 ∧ Aside0 (crossroadlaw04_CutterLines.l0 kq a1 y330 x6_1 y330 (y330.length : Int) x26_1 = some r) ∧ Aside0 (kq ≤ k) ∧ Aside0 (Kd.V (Kd.int .u8) 5 w' w.heap.size (fun k_ => some k_ ≠ (v6 : Value).ownBlock ∧ k_ ≠ gb327) (.slice Ao13 y330.length co13) y330) ∧ Aside0 (Kd.R (Kd.int .i64) 3 w' w.heap.size (fun _ => True) v6 x6_1) ∧ Aside0 (Kd.V (Kd.int .u8) 5 w' w.heap.size (fun k_ => some k_ ≠ (v6 : Value).ownBlock ∧ k_ ≠ gb327) (.slice Ao13 y330.length co13) y330) ∧ Aside0 (w'.heap[gb327]? = some (.cells #[.int .i64 a0_0, .int .i64 a0_1, .int .i64 0, .int .i64 a0_3, .int .i64 0, .bool a0_5, .int .i64 0] 23 (0, 0))) ∧ Aside0 (Below w.heap.size w w'))
     case atStart => exact ⟨(([] : List Int)), (0), (by first | rfl | (simp; done) | (simp [*]; done)), H', ⟨Nat.le_refl _⟩, ⟨by (with_reducible repeat (first | apply Kd.V_alloc | apply Kd.V_drewN | apply Kd.V_drew)); exact Kd.V_mono HO332.out (fun _ hk => ⟨(by simp [Value.ownBlock]), hk⟩)⟩, ⟨by first | exact Kd.R_nil _ _ _ _ _ | exact Kd.N_nil _ _ _ _ _ | exact Kd.V_nil _ _ _ _ _ | exact Kd.Q_nil _ _ _ _ _ | exact Kd.S_nil _ _ _ _ _⟩, ⟨by (with_reducible repeat (first | apply Kd.V_alloc | apply Kd.V_drewN | apply Kd.V_drew)); exact Kd.V_mono HO332.out (fun _ hk => ⟨(by simp [Value.ownBlock]), hk⟩)⟩, ⟨by (with_reducible repeat (first | refine blk_drewN ?_ _ | refine blk_drew ?_ | refine blk_alloc ?_ _)); exact BK327.out⟩, ⟨by repeat (first | (with_reducible first | exact HB.out | apply below_alloc | apply pw_below_drewN | apply below_drew1 | refine below_set ?_ GE327.out) | exact HB.out)⟩⟩
     case round =>
      clear H'
      try clear c1
      try clear p2
      try clear c4
      try clear c6
      try clear c8
      try clear c10
      try clear hcz9_0
      try clear hcz9_1
      try clear hcz9_2
      try clear hcz9_3
      try clear hcz9_4
      try clear hcz9_5
      try clear hcz9_6
      try clear hfz9_0
      try clear hfz9_1
      try clear hfz9_2
      try clear hfz9_3
      try clear hfz9_4
      try clear hfz9_5
      try clear hfz9_6
      obtain ⟨x6_1, x26_1, rfl, HA, HK1, HO_5, HO_6, HO_24, BK327, HB⟩ := hrel
      cases gk with
      | zero => exact absurd HA.out (by simp [crossroadlaw04_CutterLines.l0])
      | succ k1 =>
       have H := HA.out
       clear HA
       simp only [crossroadlaw04_CutterLines.l0] at H
       by_cases c14 : x26_1 < (y330.length : Int)
       · rw [if_pos c14] at H
         have c14b0 : decide (x26_1 < (y330.length : Int)) = true := decide_eq_true c14
         clear c14
         by_cases c15 : 0 ≤ x26_1
         · rw [if_pos c15] at H
           have c15b0 : decide (0 ≤ x26_1) = true := decide_eq_true c15
           clear c15
           by_cases c16 : x26_1 < (y330.length : Int)
           · rw [if_pos c16] at H
             have c16b0 : decide (x26_1 < (y330.length : Int)) = true := decide_eq_true c16
             clear c16
             by_cases c17 : (rd y330 x26_1) = 13
             · rw [if_pos c17] at H
               have c17b0 : ((rd y330 x26_1) == 13) = true := beq_iff_eq.mpr c17
               have c17b1 : ((rd y330 x26_1) != 13) = false := bne_eq_false_iff_eq.mpr c17
               clear c17
               by_cases c18 : x6_1.length < 17592186044416
               · rw [if_pos c18] at H
                 have LMc18 := Aside0.mk c18
                 clear c18
                 obtain ⟨y334, hy334⟩ : ∃ y_ : List Int, y_ = (x6_1 ++ [x26_1]) := ⟨_, rfl⟩
                 replace H : (crossroadlaw04_CutterLines.l0 k1 a1 y330 y334 y330 (y330.length : Int) (wrap64 (x26_1 + 1))) = some r := by first | (rw [hy334]; with_reducible exact H) | (have H2_ := (Option.bind_some _ _).symm.trans H; rw [hy334]; with_reducible exact H2_) | (have H2_ := (Option.bind_some _ _).symm.trans H; with_reducible exact H2_) | with_reducible exact H | (rw [hy334]; exact H) | exact H
                 have Ny334 := Aside0.mk hy334
                 clear hy334
                 have H' := Aside0.mk H
                 clear H
                 have p333 : 0 ≤ (x26_1 : Int) := of_decide_eq_true (by first | (with_reducible assumption) | assumption)
                 have q333 : x26_1 < (y330.length : Int) := of_decide_eq_true (by first | (with_reducible assumption) | assumption)
                 obtain ⟨ad333, e333, hx333_0⟩ := Kd.at_int (Kd.V_reads' HO_24.out).2.2 x26_1 p333 q333
                 cases e333
                 replace p333 := eq_true p333
                 replace q333 := eq_true q333
                 go_wp2_with (first | ((with_reducible refine gate_builtin (b := .append) (xs := #[.tmp 33, .tmp 35]) rfl ?_); at_builtin; refine Kd.R_append (Kd.int .i64) (w0 := w) w.heap.size rfl (.tmp 33) (.tmp 35) 47 3 (.int .i64 0) 8 rfl Tryd.underlying47 info3 rfl (by decide) (by omega) u6 x6_1 x26_1 [.int .i64 x26_1] (fun _ => True) (fun _ => False) rfl rfl ?aP (fun _ hk => hk.elim) ?aF ?aO ?aB ?aS ?aL ?_; (case aP => exact rfl); (case aB => exact (by repeat (first | (with_reducible first | exact HB.out | apply below_alloc | apply pw_below_drewN | apply below_drew1 | refine below_set ?_ GE327.out) | exact HB.out))); (case aF => exact (fun _ _ => trivial)); (case aO => exact (by (with_reducible repeat (first | apply Kd.R_alloc | apply Kd.R_drewN | apply Kd.R_drew)); exact HO_6.out)); (case aS => exact (below_size (by repeat (first | (with_reducible first | exact HB.out | apply below_alloc | apply pw_below_drewN | apply below_drew1 | refine below_set ?_ GE327.out) | exact HB.out)))); (case aL => have := LMc18.out; omega); intro v335 w19 ho hb hg hat; rw [← Ny334.out] at ho; have n0_ := Aside0.mk (Kd.V_afterv (ok := (fun k_ => k_ ≠ gb327)) (by (with_reducible repeat (first | apply Kd.V_alloc | apply Kd.V_drewN | apply Kd.V_drew)); exact Kd.V_mono HO_5.out (fun _ hk => ⟨hk.2, hk.1⟩)) hg hat); have n1_ := Aside0.mk (Kd.V_afterv (ok := (fun k_ => k_ ≠ gb327)) (by (with_reducible repeat (first | apply Kd.V_alloc | apply Kd.V_drewN | apply Kd.V_drew)); exact Kd.V_mono HO_24.out (fun _ hk => ⟨hk.2, hk.1⟩)) hg hat); have n2_ := Aside0.mk (blk_grown (g := gb327) (o := .cells #[.int .i64 a0_0, .int .i64 a0_1, .int .i64 0, .int .i64 a0_3, .int .i64 0, .bool a0_5, .int .i64 0] 23 (0, 0)) (by (with_reducible repeat (first | refine blk_drewN ?_ _ | refine blk_drew ?_ | refine blk_alloc ?_ _)); exact BK327.out) hg (Kd.R_ne HO_6.out BK327.out (by decide))); have n3_ := Aside0.mk (hb); have n4_ := Aside0.mk (ho); clear HO_5; clear HO_24; clear BK327; clear HB; clear HO_6; have HO_5 := n0_; have HO_24 := n1_; have BK327 := n2_; have HB := n3_; have HO336 := n4_; clear n0_ n1_ n2_ n3_ n4_; clear ho hb hg hat))
                 go_roundg k1
                 case measure => have := HK1.out; omega
                 case rel => exact ⟨(y334), (wrap64 (x26_1 + 1)), (by first | rfl | (simp; done) | (simp [*]; done)), H', ⟨by have := HK1.out; omega⟩, ⟨by (with_reducible repeat (first | apply Kd.V_alloc | apply Kd.V_drewN | apply Kd.V_drew)); exact Kd.V_mono HO_5.out (fun _ hk => ⟨hk.2, hk.1⟩)⟩, ⟨by (with_reducible repeat (first | apply Kd.R_alloc | apply Kd.R_drewN | apply Kd.R_drew)); exact HO336.out⟩, ⟨by (with_reducible repeat (first | apply Kd.V_alloc | apply Kd.V_drewN | apply Kd.V_drew)); exact Kd.V_mono HO_24.out (fun _ hk => ⟨hk.2, hk.1⟩)⟩, ⟨by (with_reducible repeat (first | refine blk_drewN ?_ _ | refine blk_drew ?_ | refine blk_alloc ?_ _)); exact BK327.out⟩, ⟨by repeat (first | (with_reducible first | exact HB.out | apply below_alloc | apply pw_below_drewN | apply below_drew1 | refine below_set ?_ GE327.out) | exact HB.out)⟩⟩
               · rw [if_neg c18] at H
                 exact absurd H (by simp)
             · rw [if_neg c17] at H
               have c17b0 : ((rd y330 x26_1) == 13) = false := beq_eq_false_iff_ne.mpr c17
               have c17b1 : ((rd y330 x26_1) != 13) = true := bne_iff_ne.mpr c17
               have H' := Aside0.mk H
               clear H
               have p333 : 0 ≤ (x26_1 : Int) := of_decide_eq_true (by first | (with_reducible assumption) | assumption)
               have q333 : x26_1 < (y330.length : Int) := of_decide_eq_true (by first | (with_reducible assumption) | assumption)
               obtain ⟨ad333, e333, hx333_0⟩ := Kd.at_int (Kd.V_reads' HO_24.out).2.2 x26_1 p333 q333
               cases e333
               replace p333 := eq_true p333
               replace q333 := eq_true q333
               go_wp2
               go_roundg k1
               case measure => have := HK1.out; omega
               case rel => exact ⟨(x6_1), (wrap64 (x26_1 + 1)), (by first | rfl | (simp; done) | (simp [*]; done)), H', ⟨by have := HK1.out; omega⟩, ⟨by (with_reducible repeat (first | apply Kd.V_alloc | apply Kd.V_drewN | apply Kd.V_drew)); exact HO_5.out⟩, ⟨by (with_reducible repeat (first | apply Kd.R_alloc | apply Kd.R_drewN | apply Kd.R_drew)); exact HO_6.out⟩, ⟨by (with_reducible repeat (first | apply Kd.V_alloc | apply Kd.V_drewN | apply Kd.V_drew)); exact HO_24.out⟩, ⟨by (with_reducible repeat (first | refine blk_drewN ?_ _ | refine blk_drew ?_ | refine blk_alloc ?_ _)); exact BK327.out⟩, ⟨by repeat (first | (with_reducible first | exact HB.out | apply below_alloc | apply pw_below_drewN | apply below_drew1 | refine below_set ?_ GE327.out) | exact HB.out)⟩⟩
           · rw [if_neg c16] at H
             exact absurd H (by simp)
         · rw [if_neg c15] at H
           exact absurd H (by simp)
       · rw [if_neg c14] at H
         have c14b0 : decide (x26_1 < (y330.length : Int)) = false := decide_eq_false c14
         clear c14
         by_cases c20 : (x6_1.length : Int) = 0
         · rw [if_pos c20] at H
           have c20b0 : ((x6_1.length : Int) == 0) = true := beq_iff_eq.mpr c20
           have c20b1 : ((x6_1.length : Int) != 0) = false := bne_eq_false_iff_eq.mpr c20
           clear c20
           obtain rfl := Option.some.inj H
           obtain ⟨Ao21, co21, eo21⟩ := Kd.R_slice HO_6.out
           subst eo21
           go_wp2
           go_ret
           exact ⟨by first | rfl | (simp [errW_none, errW_some] <;> rfl) | (simp [*, errW_none, errW_some] <;> rfl), by repeat (first | (with_reducible first | exact HB.out | apply below_alloc | apply pw_below_drewN | apply below_drew1 | refine below_set ?_ GE327.out) | exact HB.out)⟩
         · rw [if_neg c20] at H
           have c20b0 : ((x6_1.length : Int) == 0) = false := beq_eq_false_iff_ne.mpr c20
           have c20b1 : ((x6_1.length : Int) != 0) = true := bne_iff_ne.mpr c20
           have c20b2 : ¬ (x6_1 = []) := fun h_ => c20 (by rw [h_]; rfl)
           obtain ⟨ji22, hji22⟩ : ∃ j_ : Int, (Int.tmod (Go.bits .and .i64 a1 65535) (x6_1.length : Int)) = j_ := ⟨_, rfl⟩
           replace H : (if 0 ≤ (ji22) then (if (ji22) < (x6_1.length : Int) then (if 0 ≤ (rd x6_1 (ji22)) then (if (rd x6_1 (ji22)) ≤ (y330.length : Int) then ((some (y330.take ((rd x6_1 (ji22)) : Int).toNat : List Int)).bind fun y338 => (if ([] : List Int).length + y338.length < 140737488355328 then ((some (([] : List Int) ++ y338 : List Int)).bind fun y343 => (if 0 ≤ (wrap64 ((rd x6_1 (ji22)) + 1)) then (if (wrap64 ((rd x6_1 (ji22)) + 1)) ≤ (y330.length : Int) then ((some (y330.drop ((wrap64 ((rd x6_1 (ji22)) + 1)) : Int).toNat : List Int)).bind fun y346 => (if y343.length + y346.length < 140737488355328 then (if ([] : List Int).length + y330.length < 140737488355328 then ((some (([] : List Int) ++ y330 : List Int)).bind fun y354 => (if y354.length < 140737488355328 then ((some (y354 ++ [120] : List Int)).bind fun y357 => (if (wrap64 ((rd x6_1 (ji22)) + 1)) < (y357.length : Int) then ((cutter_All.f k1 (strOfNums (y343 ++ y346))).bind fun bt361 => ((cutter_All.f k1 (strOfNums (y357.set ((wrap64 ((rd x6_1 (ji22)) + 1)) : Int).toNat 120))).bind fun bt365 => (if bt361.2 = 400 then (some (bt365.2 == 400)) else (some false)))) else (none))) else (none))) else (none)) else (none))) else (none)) else (none))) else (none))) else (none)) else (none)) else (none)) else (none)) = some r := by first | (rw [hji22] at H; exact H) | (simp only [hji22] at H ⊢; exact H)
           by_cases c23 : 0 ≤ (ji22)
           · rw [if_pos c23] at H
             have c23b0 : decide (0 ≤ (ji22)) = true := decide_eq_true c23
             clear c23
             by_cases c24 : (ji22) < (x6_1.length : Int)
             · rw [if_pos c24] at H
               have c24b0 : decide ((ji22) < (x6_1.length : Int)) = true := decide_eq_true c24
               clear c24
               by_cases c25 : 0 ≤ (rd x6_1 (ji22))
               · rw [if_pos c25] at H
                 have c25b0 := eq_true c25
                 have c25b1 : decide (0 ≤ (rd x6_1 (ji22))) = true := decide_eq_true c25
                 clear c25
                 by_cases c26 : (rd x6_1 (ji22)) ≤ (y330.length : Int)
                 · rw [if_pos c26] at H
                   have c26b0 := eq_true c26
                   have c26b1 : decide ((rd x6_1 (ji22)) ≤ (y330.length : Int)) = true := decide_eq_true c26
                   clear c26
                   obtain ⟨y338, hy338⟩ : ∃ y_ : List Int, y_ = (y330.take ((rd x6_1 (ji22)) : Int).toNat) := ⟨_, rfl⟩
                   replace H : (if ([] : List Int).length + y338.length < 140737488355328 then ((some (([] : List Int) ++ y338 : List Int)).bind fun y343 => (if 0 ≤ (wrap64 ((rd x6_1 (ji22)) + 1)) then (if (wrap64 ((rd x6_1 (ji22)) + 1)) ≤ (y330.length : Int) then ((some (y330.drop ((wrap64 ((rd x6_1 (ji22)) + 1)) : Int).toNat : List Int)).bind fun y346 => (if y343.length + y346.length < 140737488355328 then (if ([] : List Int).length + y330.length < 140737488355328 then ((some (([] : List Int) ++ y330 : List Int)).bind fun y354 => (if y354.length < 140737488355328 then ((some (y354 ++ [120] : List Int)).bind fun y357 => (if (wrap64 ((rd x6_1 (ji22)) + 1)) < (y357.length : Int) then ((cutter_All.f k1 (strOfNums (y343 ++ y346))).bind fun bt361 => ((cutter_All.f k1 (strOfNums (y357.set ((wrap64 ((rd x6_1 (ji22)) + 1)) : Int).toNat 120))).bind fun bt365 => (if bt361.2 = 400 then (some (bt365.2 == 400)) else (some false)))) else (none))) else (none))) else (none)) else (none))) else (none)) else (none))) else (none)) = some r := by first | (rw [hy338]; with_reducible exact H) | (have H2_ := (Option.bind_some _ _).symm.trans H; rw [hy338]; with_reducible exact H2_) | (have H2_ := (Option.bind_some _ _).symm.trans H; with_reducible exact H2_) | with_reducible exact H | (rw [hy338]; exact H) | exact H
                   have Ny338 := Aside0.mk hy338
                   clear hy338
                   by_cases c27 : ([] : List Int).length + y338.length < 140737488355328
                   · rw [if_pos c27] at H
                     have LMc27 := Aside0.mk c27
                     clear c27
                     obtain ⟨y343, hy343⟩ : ∃ y_ : List Int, y_ = (([] : List Int) ++ y338) := ⟨_, rfl⟩
                     replace H : (if 0 ≤ (wrap64 ((rd x6_1 (ji22)) + 1)) then (if (wrap64 ((rd x6_1 (ji22)) + 1)) ≤ (y330.length : Int) then ((some (y330.drop ((wrap64 ((rd x6_1 (ji22)) + 1)) : Int).toNat : List Int)).bind fun y346 => (if y343.length + y346.length < 140737488355328 then (if ([] : List Int).length + y330.length < 140737488355328 then ((some (([] : List Int) ++ y330 : List Int)).bind fun y354 => (if y354.length < 140737488355328 then ((some (y354 ++ [120] : List Int)).bind fun y357 => (if (wrap64 ((rd x6_1 (ji22)) + 1)) < (y357.length : Int) then ((cutter_All.f k1 (strOfNums (y343 ++ y346))).bind fun bt361 => ((cutter_All.f k1 (strOfNums (y357.set ((wrap64 ((rd x6_1 (ji22)) + 1)) : Int).toNat 120))).bind fun bt365 => (if bt361.2 = 400 then (some (bt365.2 == 400)) else (some false)))) else (none))) else (none))) else (none)) else (none))) else (none)) else (none)) = some r := by first | (rw [hy343]; with_reducible exact H) | (have H2_ := (Option.bind_some _ _).symm.trans H; rw [hy343]; with_reducible exact H2_) | (have H2_ := (Option.bind_some _ _).symm.trans H; with_reducible exact H2_) | with_reducible exact H | (rw [hy343]; exact H) | exact H
                     have Ny343 := Aside0.mk hy343
                     clear hy343
                     obtain ⟨ji28, hji28⟩ : ∃ j_ : Int, (wrap64 ((rd x6_1 (ji22)) + 1)) = j_ := ⟨_, rfl⟩
                     replace H : (if 0 ≤ (ji28) then (if (ji28) ≤ (y330.length : Int) then ((some (y330.drop ((ji28) : Int).toNat : List Int)).bind fun y346 => (if y343.length + y346.length < 140737488355328 then (if ([] : List Int).length + y330.length < 140737488355328 then ((some (([] : List Int) ++ y330 : List Int)).bind fun y354 => (if y354.length < 140737488355328 then ((some (y354 ++ [120] : List Int)).bind fun y357 => (if (ji28) < (y357.length : Int) then ((cutter_All.f k1 (strOfNums (y343 ++ y346))).bind fun bt361 => ((cutter_All.f k1 (strOfNums (y357.set ((ji28) : Int).toNat 120))).bind fun bt365 => (if bt361.2 = 400 then (some (bt365.2 == 400)) else (some false)))) else (none))) else (none))) else (none)) else (none))) else (none)) else (none)) = some r := by first | (rw [hji28] at H; exact H) | (simp only [hji28] at H ⊢; exact H)
                     have hji28w : (IntKind.i64.wrap ((rd x6_1 (ji22)) + 1)) = ji28 := (i64_w _).trans hji28
                     by_cases c29 : 0 ≤ (ji28)
                     · rw [if_pos c29] at H
                       have c29b0 := eq_true c29
                       have c29b1 : decide (0 ≤ (ji28)) = true := decide_eq_true c29
                       clear c29
                       by_cases c30 : (ji28) ≤ (y330.length : Int)
                       · rw [if_pos c30] at H
                         have c30b0 := eq_true c30
                         have c30b1 : decide ((ji28) ≤ (y330.length : Int)) = true := decide_eq_true c30
                         clear c30
                         obtain ⟨y346, hy346⟩ : ∃ y_ : List Int, y_ = (y330.drop ((ji28) : Int).toNat) := ⟨_, rfl⟩
                         replace H : (if y343.length + y346.length < 140737488355328 then (if ([] : List Int).length + y330.length < 140737488355328 then ((some (([] : List Int) ++ y330 : List Int)).bind fun y354 => (if y354.length < 140737488355328 then ((some (y354 ++ [120] : List Int)).bind fun y357 => (if (ji28) < (y357.length : Int) then ((cutter_All.f k1 (strOfNums (y343 ++ y346))).bind fun bt361 => ((cutter_All.f k1 (strOfNums (y357.set ((ji28) : Int).toNat 120))).bind fun bt365 => (if bt361.2 = 400 then (some (bt365.2 == 400)) else (some false)))) else (none))) else (none))) else (none)) else (none)) = some r := by first | (rw [hy346]; with_reducible exact H) | (have H2_ := (Option.bind_some _ _).symm.trans H; rw [hy346]; with_reducible exact H2_) | (have H2_ := (Option.bind_some _ _).symm.trans H; with_reducible exact H2_) | with_reducible exact H | (rw [hy346]; exact H) | exact H
                         have Ny346 := Aside0.mk hy346
                         clear hy346
                         by_cases c31 : y343.length + y346.length < 140737488355328
                         · rw [if_pos c31] at H
                           have LMc31 := Aside0.mk c31
                           clear c31
                           obtain ⟨y351, hy351⟩ : ∃ y_ : List Int, y_ = (y343 ++ y346) := ⟨_, rfl⟩
                           replace H : (if ([] : List Int).length + y330.length < 140737488355328 then ((some (([] : List Int) ++ y330 : List Int)).bind fun y354 => (if y354.length < 140737488355328 then ((some (y354 ++ [120] : List Int)).bind fun y357 => (if (ji28) < (y357.length : Int) then ((cutter_All.f k1 (strOfNums y351)).bind fun bt361 => ((cutter_All.f k1 (strOfNums (y357.set ((ji28) : Int).toNat 120))).bind fun bt365 => (if bt361.2 = 400 then (some (bt365.2 == 400)) else (some false)))) else (none))) else (none))) else (none)) = some r := by first | (rw [hy351]; with_reducible exact H) | (have H2_ := (Option.bind_some _ _).symm.trans H; rw [hy351]; with_reducible exact H2_) | (have H2_ := (Option.bind_some _ _).symm.trans H; with_reducible exact H2_) | with_reducible exact H | (rw [hy351]; exact H) | exact H
                           have Ny351 := Aside0.mk hy351
                           clear hy351
                           by_cases c32 : ([] : List Int).length + y330.length < 140737488355328
                           · rw [if_pos c32] at H
                             have LMc32 := Aside0.mk c32
                             clear c32
                             obtain ⟨y354, hy354⟩ : ∃ y_ : List Int, y_ = (([] : List Int) ++ y330) := ⟨_, rfl⟩
                             replace H : (if y354.length < 140737488355328 then ((some (y354 ++ [120] : List Int)).bind fun y357 => (if (ji28) < (y357.length : Int) then ((cutter_All.f k1 (strOfNums y351)).bind fun bt361 => ((cutter_All.f k1 (strOfNums (y357.set ((ji28) : Int).toNat 120))).bind fun bt365 => (if bt361.2 = 400 then (some (bt365.2 == 400)) else (some false)))) else (none))) else (none)) = some r := by first | (rw [hy354]; with_reducible exact H) | (have H2_ := (Option.bind_some _ _).symm.trans H; rw [hy354]; with_reducible exact H2_) | (have H2_ := (Option.bind_some _ _).symm.trans H; with_reducible exact H2_) | with_reducible exact H | (rw [hy354]; exact H) | exact H
                             have Ny354 := Aside0.mk hy354
                             clear hy354
                             by_cases c33 : y354.length < 140737488355328
                             · rw [if_pos c33] at H
                               have LMc33 := Aside0.mk c33
                               clear c33
                               obtain ⟨y357, hy357⟩ : ∃ y_ : List Int, y_ = (y354 ++ [120]) := ⟨_, rfl⟩
                               replace H : (if (ji28) < (y357.length : Int) then ((cutter_All.f k1 (strOfNums y351)).bind fun bt361 => ((cutter_All.f k1 (strOfNums (y357.set ((ji28) : Int).toNat 120))).bind fun bt365 => (if bt361.2 = 400 then (some (bt365.2 == 400)) else (some false)))) else (none)) = some r := by first | (rw [hy357]; with_reducible exact H) | (have H2_ := (Option.bind_some _ _).symm.trans H; rw [hy357]; with_reducible exact H2_) | (have H2_ := (Option.bind_some _ _).symm.trans H; with_reducible exact H2_) | with_reducible exact H | (rw [hy357]; exact H) | exact H
                               have Ny357 := Aside0.mk hy357
                               clear hy357
                               by_cases c34 : (ji28) < (y357.length : Int)
                               · rw [if_pos c34] at H
                                 have c34b0 : decide ((ji28) < (y357.length : Int)) = true := decide_eq_true c34
                                 clear c34
                                 obtain ⟨y360, hy360⟩ : ∃ y_ : List Int, y_ = (y357.set ((ji28) : Int).toNat 120) := ⟨_, rfl⟩
                                 replace H : ((cutter_All.f k1 (strOfNums y351)).bind fun bt361 => ((cutter_All.f k1 (strOfNums y360)).bind fun bt365 => (if bt361.2 = 400 then (some (bt365.2 == 400)) else (some false)))) = some r := by first | (rw [hy360]; with_reducible exact H) | (have H2_ := (Option.bind_some _ _).symm.trans H; rw [hy360]; with_reducible exact H2_) | (have H2_ := (Option.bind_some _ _).symm.trans H; with_reducible exact H2_) | with_reducible exact H | (rw [hy360]; exact H) | exact H
                                 have Ny360 := Aside0.mk hy360
                                 clear hy360
                                 replace H := Option.bind_eq_some_iff.mp H
                                 obtain ⟨⟨t361, t362⟩, A360, H⟩ := H
                                 replace H : ((cutter_All.f k1 (strOfNums y360)).bind fun bt365 => (if t362 = 400 then (some (bt365.2 == 400)) else (some false))) = some r := H
                                 have A36 := Aside0.mk A360
                                 clear A360
                                 replace H := Option.bind_eq_some_iff.mp H
                                 obtain ⟨⟨t365, t366⟩, A370, H⟩ := H
                                 replace H : (if t362 = 400 then (some (t366 == 400)) else (some false)) = some r := H
                                 have A37 := Aside0.mk A370
                                 clear A370
                                 by_cases c38 : t362 = 400
                                 · rw [if_pos c38] at H
                                   have c38b0 : (t362 == 400) = true := beq_iff_eq.mpr c38
                                   have c38b1 : (t362 != 400) = false := bne_eq_false_iff_eq.mpr c38
                                   clear c38
                                   obtain rfl := Option.some.inj H
                                   obtain ⟨Ao39, co39, eo39⟩ := Kd.R_slice HO_6.out
                                   subst eo39
                                   have p337 : 0 ≤ ((ji22) : Int) := of_decide_eq_true (by first | (with_reducible assumption) | assumption)
                                   have q337 : (ji22) < (x6_1.length : Int) := of_decide_eq_true (by first | (with_reducible assumption) | assumption)
                                   obtain ⟨ad337, e337, hx337_0⟩ := Kd.at_int (Kd.R_reads' HO_6.out).2.2 (ji22) p337 q337
                                   cases e337
                                   replace p337 := eq_true p337
                                   replace q337 := eq_true q337
                                   try go_wp2
                                   have n0_ := Aside0.mk (Kd.V_drew HO_5.out)
                                   have n1_ := Aside0.mk (Kd.R_drew HO_6.out)
                                   have n2_ := Aside0.mk (Kd.V_drew HO_24.out)
                                   have n3_ := Aside0.mk (blk_drew BK327.out)
                                   have n4_ := Aside0.mk (below_drew1 HB.out)
                                   clear HO_5 HO_6 HO_24 BK327 HB
                                   have HO_5 := n0_
                                   have HO_6 := n1_
                                   have HO_24 := n2_
                                   have BK327 := n3_
                                   have HB := n4_
                                   clear n0_ n1_ n2_ n3_ n4_
                                   have q41 : ((rd x6_1 (ji22)) : Int) ≤ ((y330.length : Int) : Int) := of_decide_eq_true (by first | (with_reducible assumption) | assumption)
                                   obtain ⟨i041, hi041, _, hsz41, _⟩ := info_parts info5
                                   have hroom41 : y330.length ≤ co13 := (Kd.V_reads' HO_5.out).2.1
                                   have hC41 : Kd.F (Kd.int .u8) _ _ Ao13 y330.length y330 := (Kd.V_at (base := w.heap.size) HO_5.out).2.2
                                   have hcut41 := cut_to (P := Tryd.prog) 46 5 .i64 Tryd.underlying46 hi041 Ao13 y330.length co13 (rd x6_1 (ji22)) (of_decide_eq_true (by first | (with_reducible assumption) | assumption)) q41 hroom41
                                   have hr41 := Kd.F_take (m := ((rd x6_1 (ji22)) : Int).toNat) hC41 (by omega)
                                   have hy41 : y338.length = ((rd x6_1 (ji22)) : Int).toNat := (by rw [Ny338.out, List.length_take]; omega)
                                   rw [← Ny338.out] at hr41
                                   rw [← hy41] at hcut41
                                   have HO342 := Aside0.mk (show Kd.V (Kd.int .u8) 5 _ w.heap.size _ (.slice Ao13 y338.length co13) y338 from Kd.V_mk (by omega) hr41)
                                   have HC342 := Aside0.mk (show y338.length ≤ co13 from by omega)
                                   clear hr41 hC41 hroom41 hi041 hsz41
                                   have KY41 := Aside0.mk hy41
                                   clear hy41
                                   replace q41 := eq_true q41
                                   have q42 : ((ji28) : Int) ≤ ((y330.length : Int) : Int) := of_decide_eq_true (by first | (with_reducible assumption) | assumption)
                                   obtain ⟨i042, hi042, _, hsz42, _⟩ := info_parts info5
                                   have hroom42 : y330.length ≤ co13 := (Kd.V_reads' HO_5.out).2.1
                                   have hC42 : Kd.F (Kd.int .u8) _ _ Ao13 y330.length y330 := (Kd.V_at (base := w.heap.size) HO_5.out).2.2
                                   have q042 : (0 : Int) ≤ ((ji28) : Int) := of_decide_eq_true (by first | (with_reducible assumption) | assumption)
                                   have hcut42 := cut_from (P := Tryd.prog) 46 5 .i64 Tryd.underlying46 hi042 1 hsz42 Ao13 y330.length co13 (ji28) q042 q42
                                   have hr42 := Kd.F_cut (m := ((ji28) : Int).toNat) (c := co13) hC42 (by omega) hroom42
                                   obtain ⟨A42, hA42⟩ : ∃ A1, A1 = (if co13 = ((ji28) : Int).toNat then Ao13 else (Ao13 : Option Addr).map (·.add (((ji28) : Int).toNat * 1))) := ⟨_, rfl⟩
                                   obtain ⟨c42, hc42⟩ : ∃ c1, c1 = co13 - ((ji28) : Int).toNat := ⟨_, rfl⟩
                                   have hy42 : y346.length = y330.length - ((ji28) : Int).toNat := (by rw [Ny346.out, List.length_drop] <;> omega)
                                   rw [show (y330).drop ((ji28) : Int).toNat = y346 from Ny346.out.symm] at hr42
                                   replace hr42 : Kd.F (Kd.int .u8) _ _ A42 y346.length y346 := (by rw [hA42]; exact hr42)
                                   rw [← hy42, ← hA42, ← hc42] at hcut42
                                   have HO350 := Aside0.mk (show Kd.V (Kd.int .u8) 5 _ w.heap.size _ (.slice A42 y346.length c42) y346 from Kd.V_mk (by rw [hy42, hc42]; exact Nat.sub_le_sub_right hroom42 _) hr42)
                                   have HC350 := Aside0.mk (show y346.length ≤ c42 from by rw [hy42, hc42]; exact Nat.sub_le_sub_right hroom42 _)
                                   clear hr42 hC42 hroom42 hi042 hsz42 hc42
                                   have KY42 := Aside0.mk hy42
                                   have KA42 := Aside0.mk hA42
                                   clear hy42 hA42
                                   replace q42 := eq_true q42
                                   refine start_ (n := 10) (S := fun w' => True) (ds := []) #[false, false, false, false, false, false, false, false, false, false] (by kernel_rfl) rfl rfl trivial (fun hHeld => ?_); refine with_tabW crossroadlaw04_CutterLines.tab15 crossroadlaw04_CutterLines.bits15 (fun HT_ HW_ => ?_)
                                   generalize wr.drew = w40 at HO_5 HO_6 HO_24 BK327 HB HO342 HO350 hHeld ⊢
                                   refine pure_ (i := 0) (N := some 49) (v := ?_) (a' := ?_) #[true, false, false, false, false, false, false, false, false, false] rfl rfl (any_of HT_.out (by kernel_rfl)) (fun _ _ _ h => h) (Or.inl ⟨by rfl, ?_⟩) ?_ ?_
                                   rotate_left
                                   · intro w'
                                     go_simp
                                     with_reducible rfl
                                   rotate_left
                                   · simp only [Act.put, List.setIfInBounds_toArray, List.set_cons_zero, List.set_cons_succ, i64_w, i32_w]
                                     rfl
                                   refine pure_ (i := 1) (N := some 50) (v := ?_) (a' := ?_) #[true, true, false, false, false, false, false, false, false, false] rfl rfl (any_of HT_.out (by kernel_rfl)) (fun _ _ _ h => h) (Or.inl ⟨by rfl, ?_⟩) ?_ ?_
                                   rotate_left
                                   · intro w'
                                     go_simp
                                     with_reducible rfl
                                   rotate_left
                                   · simp only [Act.put, List.setIfInBounds_toArray, List.set_cons_zero, List.set_cons_succ, i64_w, i32_w]
                                     rfl
                                   refine pure_ (i := 2) (N := some 51) (v := ?_) (a' := ?_) #[true, true, true, false, false, false, false, false, false, false] rfl rfl (any_of HT_.out (by kernel_rfl)) (fun _ _ _ h => h) (Or.inl ⟨by rfl, ?_⟩) ?_ ?_
                                   rotate_left
                                   · intro w'
                                     go_simp
                                     with_reducible rfl
                                   rotate_left
                                   · simp only [Act.put, List.setIfInBounds_toArray, List.set_cons_zero, List.set_cons_succ, i64_w, i32_w]
                                     rfl
                                   refine pure_ (i := 4) (N := some 53) (v := ?_) (a' := ?_) #[true, true, true, false, true, false, false, false, false, false] rfl rfl (any_of HT_.out (by kernel_rfl)) (fun _ _ _ h => h) (Or.inl ⟨by rfl, ?_⟩) ?_ ?_
                                   rotate_left
                                   · intro w'
                                     go_simp
                                     with_reducible rfl
                                   rotate_left
                                   · simp only [Act.put, List.setIfInBounds_toArray, List.set_cons_zero, List.set_cons_succ, i64_w, i32_w]
                                     rfl
                                   refine pure_ (i := 5) (N := some 54) (v := ?_) (a' := ?_) #[true, true, true, false, true, true, false, false, false, false] rfl rfl (any_of HT_.out (by kernel_rfl)) (fun _ _ _ h => h) (Or.inl ⟨by rfl, ?_⟩) ?_ ?_
                                   rotate_left
                                   · intro w'
                                     go_simp
                                     with_reducible rfl
                                   rotate_left
                                   · simp only [Act.put, List.setIfInBounds_toArray, List.set_cons_zero, List.set_cons_succ, i64_w, i32_w]
                                     rfl
                                   refine pure_ (i := 6) (N := some 55) (v := ?_) (a' := ?_) #[true, true, true, false, true, true, true, false, false, false] rfl rfl (any_of HT_.out (by kernel_rfl)) (fun _ _ _ h => h) (Or.inl ⟨by rfl, ?_⟩) ?_ ?_
                                   rotate_left
                                   · intro w'
                                     go_simp
                                     with_reducible rfl
                                   rotate_left
                                   · simp only [Act.put, List.setIfInBounds_toArray, List.set_cons_zero, List.set_cons_succ, i64_w, i32_w]
                                     rfl
                                   refine pure_ (i := 7) (N := some 56) (v := ?_) (a' := ?_) #[true, true, true, false, true, true, true, true, false, false] rfl rfl (any_of HT_.out (by kernel_rfl)) (fun _ _ _ h => h) (Or.inl ⟨by rfl, ?_⟩) ?_ ?_
                                   rotate_left
                                   · intro w'
                                     go_simp
                                     with_reducible rfl
                                   rotate_left
                                   · simp only [Act.put, List.setIfInBounds_toArray, List.set_cons_zero, List.set_cons_succ, i64_w, i32_w]
                                     rfl
                                   refine one_ (i := 3) (N := some 52) #[true, true, true, true, true, true, true, true, false, false] rfl rfl (one_of HT_.out (by kernel_rfl)) (by decide) (fun K hK => ?_)
                                   refine Kd.R_append_rows_step (Kd.int .u8) (w0 := w) w.heap.size rfl (.const (.slice none 0 0)) (.tmp 51) 46 5 (.int .u8 0) 1 rfl Tryd.underlying46 info5 rfl (by decide) (by omega) (.slice none 0 0) ([] : List Int) y338 _ _ _ (fun _ => True) (fun _ => False) rfl rfl ?aO ?aR (fun _ _ h => h) (fun _ h => h.elim) ?aF ?aB ?aS ?aL ?_
                                   (case aR => repeat (first | exact (Kd.V_reads' HO342.out).2.2 | (with_reducible refine Kd.C_alloc ?_ _) | (with_reducible refine Kd.C_drewN ?_ _) | (with_reducible refine Kd.C_drew ?_)))
                                   (case aB => exact (by repeat (first | (with_reducible first | exact HB.out | apply below_alloc | apply pw_below_drewN | apply below_drew1 | refine below_set ?_ GE327.out) | exact HB.out)))
                                   (case aF => exact (fun _ _ => trivial))
                                   (case aO => exact ((Kd.R_nil _ _ _ _ (fun _ => True))))
                                   (case aS => exact (below_size (by repeat (first | (with_reducible first | exact HB.out | apply below_alloc | apply pw_below_drewN | apply below_drew1 | refine below_set ?_ GE327.out) | exact HB.out))))
                                   (case aL => have := LMc27.out; omega)
                                   intro v344 w43 ho hb hg hat
                                   rw [← Ny343.out] at ho
                                   have n0_ := Aside0.mk (Kd.V_afterv (Kd.V_apart_nil (by (with_reducible repeat (first | apply Kd.V_alloc | apply Kd.V_drewN | apply Kd.V_drew)); exact HO_5.out)) hg hat)
                                   have n1_ := Aside0.mk (Kd.R_grown (by (with_reducible repeat (first | apply Kd.R_alloc | apply Kd.R_drewN | apply Kd.R_drew)); exact HO_6.out) hg (fun _ _ => by simp [Value.ownBlock]))
                                   have n2_ := Aside0.mk (Kd.V_afterv (Kd.V_apart_nil (by (with_reducible repeat (first | apply Kd.V_alloc | apply Kd.V_drewN | apply Kd.V_drew)); exact HO_24.out)) hg hat)
                                   have n3_ := Aside0.mk (blk_grown (g := gb327) (o := .cells #[.int .i64 a0_0, .int .i64 a0_1, .int .i64 0, .int .i64 a0_3, .int .i64 0, .bool a0_5, .int .i64 0] 23 (0, 0)) (by (with_reducible repeat (first | refine blk_drewN ?_ _ | refine blk_drew ?_ | refine blk_alloc ?_ _)); exact BK327.out) hg (by simp [Value.ownBlock]))
                                   have n4_ := Aside0.mk (Kd.V_afterv (Kd.V_apart_nil (by (with_reducible repeat (first | apply Kd.V_alloc | apply Kd.V_drewN | apply Kd.V_drew)); exact HO342.out)) hg hat)
                                   have n5_ := Aside0.mk (Kd.V_afterv (Kd.V_apart_nil (by (with_reducible repeat (first | apply Kd.V_alloc | apply Kd.V_drewN | apply Kd.V_drew)); exact HO350.out)) hg hat)
                                   have n6_ := Aside0.mk (hb)
                                   have n7_ := Aside0.mk (ho)
                                   clear HO_5 HO_6 HO_24 BK327 HO342 HO350 HB
                                   have HO_5 := n0_
                                   have HO_6 := n1_
                                   have HO_24 := n2_
                                   have BK327 := n3_
                                   have HO342 := n4_
                                   have HO350 := n5_
                                   have HB := n6_
                                   have HO345 := n7_
                                   clear n0_ n1_ n2_ n3_ n4_ n5_ n6_ n7_ ho hb hg hat
                                   refine hK.out _ _ trivial (fun hHeld => ?_)
                                   clear hK K
                                   refine norm_ (a' := ?_) ?_ ?_
                                   rotate_left
                                   · show Act.put _ (some 52) _ = _
                                     simp only [Act.put, List.setIfInBounds_toArray, List.set_cons_zero, List.set_cons_succ, i64_w, i32_w]
                                     rfl
                                   refine one_ (i := 8) (N := some 57) #[true, true, true, true, true, true, true, true, true, false] rfl rfl (one_of HT_.out (by kernel_rfl)) (by decide) (fun K hK => ?_)
                                   refine Kd.R_append_rows_step (Kd.int .u8) (w0 := w) w.heap.size (by rfl) (.tmp 52) (.tmp 56) 46 5 (.int .u8 0) 1 rfl Tryd.underlying46 info5 rfl (by decide) (by omega) v344 y343 y346 _ _ _ (fun _ => True) (fun _ => False) rfl rfl ?aO ?aR (fun _ _ h => h) (fun _ h => h.elim) ?aF ?aB ?aS ?aL ?_
                                   (case aR => repeat (first | exact (Kd.V_reads' HO350.out).2.2 | (with_reducible refine Kd.C_alloc ?_ _) | (with_reducible refine Kd.C_drewN ?_ _) | (with_reducible refine Kd.C_drew ?_)))
                                   (case aB => exact (by repeat (first | (with_reducible first | exact HB.out | apply below_alloc | apply pw_below_drewN | apply below_drew1 | refine below_set ?_ GE327.out) | exact HB.out)))
                                   (case aF => exact (fun _ _ => trivial))
                                   (case aO => exact (by (with_reducible repeat (first | apply Kd.R_alloc | apply Kd.R_drewN | apply Kd.R_drew)); exact HO345.out))
                                   (case aS => exact (below_size (by repeat (first | (with_reducible first | exact HB.out | apply below_alloc | apply pw_below_drewN | apply below_drew1 | refine below_set ?_ GE327.out) | exact HB.out))))
                                   (case aL => have := LMc31.out; omega)
                                   intro v352 w44 ho hb hg hat
                                   rw [← Ny351.out] at ho
                                   have n0_ := Aside0.mk (Kd.V_afterv (ok := (fun k_ => some k_ ≠ (.slice (some ad337) x6_1.length co39 : Value).ownBlock ∧ k_ ≠ gb327)) (by (with_reducible repeat (first | apply Kd.V_alloc | apply Kd.V_drewN | apply Kd.V_drew)); exact HO_5.out) hg hat)
                                   have n1_ := Aside0.mk (Kd.R_over' (by (with_reducible repeat (first | apply Kd.R_alloc | apply Kd.R_drewN | apply Kd.R_drew)); exact HO_6.out) (Kd.R_typed (by (with_reducible repeat (first | apply Kd.R_alloc | apply Kd.R_drewN | apply Kd.R_drew)); exact HO345.out)) (by decide) hg)
                                   have n2_ := Aside0.mk (Kd.V_afterv (ok := (fun k_ => some k_ ≠ (.slice (some ad337) x6_1.length co39 : Value).ownBlock ∧ k_ ≠ gb327)) (by (with_reducible repeat (first | apply Kd.V_alloc | apply Kd.V_drewN | apply Kd.V_drew)); exact HO_24.out) hg hat)
                                   have n3_ := Aside0.mk (blk_grown (g := gb327) (o := .cells #[.int .i64 a0_0, .int .i64 a0_1, .int .i64 0, .int .i64 a0_3, .int .i64 0, .bool a0_5, .int .i64 0] 23 (0, 0)) (by (with_reducible repeat (first | refine blk_drewN ?_ _ | refine blk_drew ?_ | refine blk_alloc ?_ _)); exact BK327.out) hg (Kd.R_ne HO345.out BK327.out (by decide)))
                                   have n4_ := Aside0.mk (Kd.V_afterv (ok := (fun k_ => some k_ ≠ (.slice (some ad337) x6_1.length co39 : Value).ownBlock ∧ k_ ≠ gb327)) (by (with_reducible repeat (first | apply Kd.V_alloc | apply Kd.V_drewN | apply Kd.V_drew)); exact HO342.out) hg hat)
                                   have n5_ := Aside0.mk (Kd.V_afterv (ok := (fun k_ => some k_ ≠ (.slice (some ad337) x6_1.length co39 : Value).ownBlock ∧ k_ ≠ gb327)) (by (with_reducible repeat (first | apply Kd.V_alloc | apply Kd.V_drewN | apply Kd.V_drew)); exact HO350.out) hg hat)
                                   have n6_ := Aside0.mk (hb)
                                   have n7_ := Aside0.mk (ho)
                                   clear HO_5 HO_6 HO_24 BK327 HO342 HO350 HB HO345
                                   have HO_5 := n0_
                                   have HO_6 := n1_
                                   have HO_24 := n2_
                                   have BK327 := n3_
                                   have HO342 := n4_
                                   have HO350 := n5_
                                   have HB := n6_
                                   have HO353 := n7_
                                   clear n0_ n1_ n2_ n3_ n4_ n5_ n6_ n7_ ho hb hg hat
                                   refine hK.out _ _ trivial (fun hHeld => ?_)
                                   clear hK K
                                   refine norm_ (a' := ?_) ?_ ?_
                                   rotate_left
                                   · show Act.put _ (some 57) _ = _
                                     simp only [Act.put, List.setIfInBounds_toArray, List.set_cons_zero, List.set_cons_succ, i64_w, i32_w]
                                     rfl
                                   refine pure_ (i := 9) (N := some 10) (v := ?_) (a' := ?_) #[true, true, true, true, true, true, true, true, true, true] rfl rfl (any_of HT_.out (by kernel_rfl)) (fun _ _ _ h => h) (Or.inl ⟨by rfl, ?_⟩) ?_ ?_
                                   rotate_left
                                   · intro w'
                                     go_simp
                                     with_reducible rfl
                                   rotate_left
                                   · simp only [Act.put, List.setIfInBounds_toArray, List.set_cons_zero, List.set_cons_succ, i64_w, i32_w]
                                     rfl
                                   refine done_ (done_of HT_.out (by kernel_rfl)) ?_
                                   try go_wp2_with (first | ((with_reducible refine gate_builtin (b := .append) (xs := #[.const (.slice none 0 0), .tmp 58]) rfl ?_); at_builtin; refine Kd.R_append_rows (Kd.int .u8) (w0 := w) w.heap.size rfl (.const (.slice none 0 0)) (.tmp 58) 46 5 (.int .u8 0) 1 rfl Tryd.underlying46 info5 rfl (by decide) (by omega) (.slice none 0 0) ([] : List Int) y330 _ _ _ (fun k_ => some k_ ≠ (v352 : Value).ownBlock) (fun _ => False) rfl rfl ?aO ?aR (fun _ _ h => h) (fun _ h => h.elim) ?aF ?aB ?aS ?aL ?_; (case aR => repeat (first | exact (Kd.V_reads' HO_5.out).2.2 | (with_reducible refine Kd.C_alloc ?_ _) | (with_reducible refine Kd.C_drewN ?_ _) | (with_reducible refine Kd.C_drew ?_))); (case aB => exact (by repeat (first | (with_reducible first | exact HB.out | apply below_alloc | apply pw_below_drewN | apply below_drew1 | refine below_set ?_ GE327.out) | exact HB.out))); (case aF => exact (fun k_ hk => Kd.fresh' (Kd.R_lt (by (with_reducible repeat (first | apply Kd.R_alloc | apply Kd.R_drewN | apply Kd.R_drew)); exact HO353.out)) k_ hk)); (case aO => exact ((Kd.R_nil _ _ _ _ (fun k_ => some k_ ≠ (v352 : Value).ownBlock)))); (case aS => exact (below_size (by repeat (first | (with_reducible first | exact HB.out | apply below_alloc | apply pw_below_drewN | apply below_drew1 | refine below_set ?_ GE327.out) | exact HB.out)))); (case aL => have := LMc32.out; omega); intro v355 w45 ho hb hg hat; rw [← Ny354.out] at ho; have n0_ := Aside0.mk (Kd.V_afterv (Kd.V_apart_nil (by (with_reducible repeat (first | apply Kd.V_alloc | apply Kd.V_drewN | apply Kd.V_drew)); exact HO_5.out)) hg hat); have n1_ := Aside0.mk (Kd.R_grown (by (with_reducible repeat (first | apply Kd.R_alloc | apply Kd.R_drewN | apply Kd.R_drew)); exact HO_6.out) hg (fun _ _ => by simp [Value.ownBlock])); have n2_ := Aside0.mk (Kd.V_afterv (Kd.V_apart_nil (by (with_reducible repeat (first | apply Kd.V_alloc | apply Kd.V_drewN | apply Kd.V_drew)); exact HO_24.out)) hg hat); have n3_ := Aside0.mk (blk_grown (g := gb327) (o := .cells #[.int .i64 a0_0, .int .i64 a0_1, .int .i64 0, .int .i64 a0_3, .int .i64 0, .bool a0_5, .int .i64 0] 23 (0, 0)) (by (with_reducible repeat (first | refine blk_drewN ?_ _ | refine blk_drew ?_ | refine blk_alloc ?_ _)); exact BK327.out) hg (by simp [Value.ownBlock])); have n4_ := Aside0.mk (Kd.V_afterv (Kd.V_apart_nil (by (with_reducible repeat (first | apply Kd.V_alloc | apply Kd.V_drewN | apply Kd.V_drew)); exact HO342.out)) hg hat); have n5_ := Aside0.mk (Kd.V_afterv (Kd.V_apart_nil (by (with_reducible repeat (first | apply Kd.V_alloc | apply Kd.V_drewN | apply Kd.V_drew)); exact HO350.out)) hg hat); have n6_ := Aside0.mk (Kd.R_after (Kd.R_apart_nil (by (with_reducible repeat (first | apply Kd.R_alloc | apply Kd.R_drewN | apply Kd.R_drew)); exact HO353.out)) hg hat); have n7_ := Aside0.mk (hb); have n8_ := Aside0.mk (ho); clear HO_5; clear HO_6; clear HO_24; clear BK327; clear HO342; clear HO350; clear HO353; clear HB; have HO_5 := n0_; have HO_6 := n1_; have HO_24 := n2_; have BK327 := n3_; have HO342 := n4_; have HO350 := n5_; have HO353 := n6_; have HB := n7_; have HO356 := n8_; clear n0_ n1_ n2_ n3_ n4_ n5_ n6_ n7_ n8_; clear ho hb hg hat) | ((with_reducible refine gate_builtin (b := .append) (xs := #[.tmp 59, .tmp 60]) rfl ?_); at_builtin; refine Kd.R_append (Kd.int .u8) (w0 := w) w.heap.size rfl (.tmp 59) (.tmp 60) 46 5 (.int .u8 0) 1 rfl Tryd.underlying46 info5 rfl (by decide) (by omega) v355 y354 120 [.int .u8 120] (fun k_ => some k_ ≠ (v352 : Value).ownBlock) (fun _ => False) rfl rfl ?aP (fun _ hk => hk.elim) ?aF ?aO ?aB ?aS ?aL ?_; (case aP => exact rfl); (case aB => exact (by repeat (first | (with_reducible first | exact HB.out | apply below_alloc | apply pw_below_drewN | apply below_drew1 | refine below_set ?_ GE327.out) | exact HB.out))); (case aF => exact (fun k_ hk => Kd.fresh' (Kd.R_lt (by (with_reducible repeat (first | apply Kd.R_alloc | apply Kd.R_drewN | apply Kd.R_drew)); exact HO353.out)) k_ hk)); (case aO => exact (by (with_reducible repeat (first | apply Kd.R_alloc | apply Kd.R_drewN | apply Kd.R_drew)); exact HO356.out)); (case aS => exact (below_size (by repeat (first | (with_reducible first | exact HB.out | apply below_alloc | apply pw_below_drewN | apply below_drew1 | refine below_set ?_ GE327.out) | exact HB.out)))); (case aL => have := LMc33.out; omega); intro v358 w46 ho hb hg hat; rw [← Ny357.out] at ho; have n0_ := Aside0.mk (Kd.V_afterv (ok := (fun k_ => some k_ ≠ (.slice (some ad337) x6_1.length co39 : Value).ownBlock ∧ some k_ ≠ (v352 : Value).ownBlock ∧ k_ ≠ gb327)) (by (with_reducible repeat (first | apply Kd.V_alloc | apply Kd.V_drewN | apply Kd.V_drew)); exact Kd.V_mono HO_5.out (fun _ hk => ⟨⟨hk.1.1.1, ⟨hk.1.2, hk.1.1.2⟩⟩, hk.2⟩)) hg hat); have n1_ := Aside0.mk (Kd.R_over' (by (with_reducible repeat (first | apply Kd.R_alloc | apply Kd.R_drewN | apply Kd.R_drew)); exact HO_6.out) (Kd.R_typed (by (with_reducible repeat (first | apply Kd.R_alloc | apply Kd.R_drewN | apply Kd.R_drew)); exact HO356.out)) (by decide) hg); have n2_ := Aside0.mk (Kd.V_afterv (ok := (fun k_ => some k_ ≠ (.slice (some ad337) x6_1.length co39 : Value).ownBlock ∧ some k_ ≠ (v352 : Value).ownBlock ∧ k_ ≠ gb327)) (by (with_reducible repeat (first | apply Kd.V_alloc | apply Kd.V_drewN | apply Kd.V_drew)); exact Kd.V_mono HO_24.out (fun _ hk => ⟨⟨hk.1.1.1, ⟨hk.1.2, hk.1.1.2⟩⟩, hk.2⟩)) hg hat); have n3_ := Aside0.mk (blk_grown (g := gb327) (o := .cells #[.int .i64 a0_0, .int .i64 a0_1, .int .i64 0, .int .i64 a0_3, .int .i64 0, .bool a0_5, .int .i64 0] 23 (0, 0)) (by (with_reducible repeat (first | refine blk_drewN ?_ _ | refine blk_drew ?_ | refine blk_alloc ?_ _)); exact BK327.out) hg (Kd.R_ne HO356.out BK327.out (by decide))); have n4_ := Aside0.mk (Kd.V_afterv (ok := (fun k_ => some k_ ≠ (.slice (some ad337) x6_1.length co39 : Value).ownBlock ∧ some k_ ≠ (v352 : Value).ownBlock ∧ k_ ≠ gb327)) (by (with_reducible repeat (first | apply Kd.V_alloc | apply Kd.V_drewN | apply Kd.V_drew)); exact Kd.V_mono HO342.out (fun _ hk => ⟨⟨hk.1.1.1, ⟨hk.1.2, hk.1.1.2⟩⟩, hk.2⟩)) hg hat); have n5_ := Aside0.mk (Kd.V_afterv (ok := (fun k_ => some k_ ≠ (.slice (some ad337) x6_1.length co39 : Value).ownBlock ∧ some k_ ≠ (v352 : Value).ownBlock ∧ k_ ≠ gb327)) (by (with_reducible repeat (first | apply Kd.V_alloc | apply Kd.V_drewN | apply Kd.V_drew)); exact Kd.V_mono HO350.out (fun _ hk => ⟨⟨hk.1.1.1, ⟨hk.1.2, hk.1.1.2⟩⟩, hk.2⟩)) hg hat); have n6_ := Aside0.mk (Kd.R_after (ok := (fun _ => True)) (by (with_reducible repeat (first | apply Kd.R_alloc | apply Kd.R_drewN | apply Kd.R_drew)); exact HO353.out) hg hat); have n7_ := Aside0.mk (hb); have n8_ := Aside0.mk (ho); clear HO_5; clear HO_6; clear HO_24; clear BK327; clear HO342; clear HO350; clear HO353; clear HB; clear HO356; have HO_5 := n0_; have HO_6 := n1_; have HO_24 := n2_; have BK327 := n3_; have HO342 := n4_; have HO350 := n5_; have HO353 := n6_; have HB := n7_; have HO359 := n8_; clear n0_ n1_ n2_ n3_ n4_ n5_ n6_ n7_ n8_; clear ho hb hg hat; have p35 : 0 ≤ ((ji28) : Int) := of_decide_eq_true (by first | (with_reducible assumption) | assumption); have q35 : ((ji28) : Int) < ((y357.length : Int) : Int) := of_decide_eq_true (by first | (with_reducible assumption) | assumption); obtain ⟨go35, co35, eo35, gb35, gl35, cl35, HG35⟩ := Kd.R_form HO359.out (by omega); (first | cases eo35 | (injection eo35 with ea_ en_ ec_; (first | subst ea_ | (injection ea_ with ea_; subst ea_)); subst ec_; clear en_)); have GB35 := Aside0.mk gb35; have GG35 := Aside0.mk HG35; clear gb35 gl35 HG35; obtain ⟨hx35_0, hf35_0⟩ := Kd.R_celln 0 HO359.out ((ji28) : Int) p35 q35; replace p35 := eq_true p35; replace q35 := eq_true q35; obtain ⟨hy47_, hz47_⟩ := Kd.R_celln 0 HO359.out ((ji28) : Int) (of_decide_eq_true (by first | (with_reducible assumption) | assumption)) (of_decide_eq_true (by first | (with_reducible assumption) | assumption)); have HP47 := Kd.R_putg HO359.out ((ji28) : Int) 120) | ((with_reducible refine gate_store (t := 5) (p := 65) rfl ?_); refine store_event (t := 5) (p := 65) (v := ?vo_w48) (w1 := (w46.setCell ⟨go35, ((ji28) : Int).toNat, none⟩ (.int .u8 120))) ?hg ?ho ?hn ?hr ?_; (case ho => rfl); (case hg => rfl); (case hn => rfl); (case hr => first | (go_simp; done) | (go_simp; rfl)); intro w48 hw; have hg : w46.grownBy w48 (some go35) := (by rw [hw]; exact HP47.2); have hp_ : Kd.R (Kd.int .u8) 5 w48 w.heap.size (fun k_ => some k_ ≠ (v352 : Value).ownBlock) (.slice (some ⟨go35, 0, none⟩) y357.length co35) y360 := (by rw [hw, Ny360.out]; exact HP47.1); clear HP47; have n0_ := Aside0.mk (Kd.V_afterv (v := (.slice (some ⟨go35, 0, none⟩) y357.length co35)) (v1 := (.slice (some ⟨go35, 0, none⟩) y357.length co35)) (ok := (fun k_ => some k_ ≠ (.slice (some ad337) x6_1.length co39 : Value).ownBlock ∧ some k_ ≠ (v352 : Value).ownBlock ∧ k_ ≠ gb327)) (by (with_reducible repeat (first | apply Kd.V_alloc | apply Kd.V_drewN | apply Kd.V_drew)); exact HO_5.out) hg (.inl rfl)); have n1_ := Aside0.mk (Kd.R_over' (v := (.slice (some ⟨go35, 0, none⟩) y357.length co35)) (by (with_reducible repeat (first | apply Kd.R_alloc | apply Kd.R_drewN | apply Kd.R_drew)); exact HO_6.out) (Kd.R_typed HO359.out) (by decide) hg); have n2_ := Aside0.mk (Kd.V_afterv (v := (.slice (some ⟨go35, 0, none⟩) y357.length co35)) (v1 := (.slice (some ⟨go35, 0, none⟩) y357.length co35)) (ok := (fun k_ => some k_ ≠ (.slice (some ad337) x6_1.length co39 : Value).ownBlock ∧ some k_ ≠ (v352 : Value).ownBlock ∧ k_ ≠ gb327)) (by (with_reducible repeat (first | apply Kd.V_alloc | apply Kd.V_drewN | apply Kd.V_drew)); exact HO_24.out) hg (.inl rfl)); have n3_ := Aside0.mk (blk_grown (g := gb327) (o := .cells #[.int .i64 a0_0, .int .i64 a0_1, .int .i64 0, .int .i64 a0_3, .int .i64 0, .bool a0_5, .int .i64 0] 23 (0, 0)) (by (with_reducible repeat (first | refine blk_drewN ?_ _ | refine blk_drew ?_ | refine blk_alloc ?_ _)); exact BK327.out) hg (Kd.R_ne HO359.out BK327.out (by decide))); have n4_ := Aside0.mk (Kd.V_afterv (v := (.slice (some ⟨go35, 0, none⟩) y357.length co35)) (v1 := (.slice (some ⟨go35, 0, none⟩) y357.length co35)) (ok := (fun k_ => some k_ ≠ (.slice (some ad337) x6_1.length co39 : Value).ownBlock ∧ some k_ ≠ (v352 : Value).ownBlock ∧ k_ ≠ gb327)) (by (with_reducible repeat (first | apply Kd.V_alloc | apply Kd.V_drewN | apply Kd.V_drew)); exact HO342.out) hg (.inl rfl)); have n5_ := Aside0.mk (Kd.V_afterv (v := (.slice (some ⟨go35, 0, none⟩) y357.length co35)) (v1 := (.slice (some ⟨go35, 0, none⟩) y357.length co35)) (ok := (fun k_ => some k_ ≠ (.slice (some ad337) x6_1.length co39 : Value).ownBlock ∧ some k_ ≠ (v352 : Value).ownBlock ∧ k_ ≠ gb327)) (by (with_reducible repeat (first | apply Kd.V_alloc | apply Kd.V_drewN | apply Kd.V_drew)); exact HO350.out) hg (.inl rfl)); have n6_ := Aside0.mk (Kd.R_after (v := (.slice (some ⟨go35, 0, none⟩) y357.length co35)) (v1 := (.slice (some ⟨go35, 0, none⟩) y357.length co35)) (ok := (fun _ => True)) (by (with_reducible repeat (first | apply Kd.R_alloc | apply Kd.R_drewN | apply Kd.R_drew)); exact HO353.out) hg (.inl rfl)); have n7_ := Aside0.mk (hp_); have n8_ := Aside0.mk ((by rw [hw]; exact below_set (HB.out) GB35.out : Below w.heap.size w w48)); clear HO_5; clear HO_6; clear HO_24; clear BK327; clear HO342; clear HO350; clear HO353; clear HO359; clear HB; have HO_5 := n0_; have HO_6 := n1_; have HO_24 := n2_; have BK327 := n3_; have HO342 := n4_; have HO350 := n5_; have HO353 := n6_; have HO359 := n7_; have HB := n8_; clear n0_ n1_ n2_ n3_ n4_ n5_ n6_ n7_ n8_; clear hg hw hp_; have hcv49 := own_string (P := Tryd.prog) Tryd.underlying46 Tryd.underlying5 Tryd.underlying9 (Kd.own_of_R HO353.out)) | ((with_reducible refine gate_callee (f := 9) rfl ?_); refine goesL_ (some 69) rfl rfl Tryd.func9 (by kernel_rfl) rfl #[.string (strOfNums y351)] rfl (by (try simp only [List.map_toArray, List.map_cons, List.map_nil]); first | done | rfl | (simp only [List.length_drop, List.length_take]; rfl)) ?_; (with_reducible refine (cutter_All.calls k1 (strOfNums y351) t361 t362 _ A36.out).mono ?_); rintro e w50 ⟨v363, rfl, ho0, hb⟩; refine ⟨_, rfl, ?_⟩; have n0_ := Aside0.mk (Kd.V_elder' (by (with_reducible repeat (first | apply Kd.V_alloc | apply Kd.V_drewN | apply Kd.V_drew)); exact HO_5.out) (Kd.S_base ho0) hb); have n1_ := Aside0.mk (Kd.R_below (by (with_reducible repeat (first | apply Kd.R_alloc | apply Kd.R_drewN | apply Kd.R_drew)); exact HO_6.out) hb); have n2_ := Aside0.mk (Kd.V_elder' (by (with_reducible repeat (first | apply Kd.V_alloc | apply Kd.V_drewN | apply Kd.V_drew)); exact HO_24.out) (Kd.S_base ho0) hb); have n3_ := Aside0.mk (Kd.V_elder' (by (with_reducible repeat (first | apply Kd.V_alloc | apply Kd.V_drewN | apply Kd.V_drew)); exact HO342.out) (Kd.S_base ho0) hb); have n4_ := Aside0.mk (Kd.V_elder' (by (with_reducible repeat (first | apply Kd.V_alloc | apply Kd.V_drewN | apply Kd.V_drew)); exact HO350.out) (Kd.S_base ho0) hb); have n5_ := Aside0.mk (Kd.R_below (by (with_reducible repeat (first | apply Kd.R_alloc | apply Kd.R_drewN | apply Kd.R_drew)); exact HO353.out) hb); have n6_ := Aside0.mk (Kd.R_below (by (with_reducible repeat (first | apply Kd.R_alloc | apply Kd.R_drewN | apply Kd.R_drew)); exact HO359.out) hb); have n7_ := Aside0.mk (Kd.S_lower ho0 (below_size (by repeat (first | (with_reducible first | exact HB.out | apply below_alloc | apply pw_below_drewN | apply below_drew1 | refine below_set ?_ GE327.out) | exact HB.out)))); have n8_ := Aside0.mk (blk_below (g := gb327) (o := .cells #[.int .i64 a0_0, .int .i64 a0_1, .int .i64 0, .int .i64 a0_3, .int .i64 0, .bool a0_5, .int .i64 0] 23 (0, 0)) (by (with_reducible repeat (first | refine blk_drewN ?_ _ | refine blk_drew ?_ | refine blk_alloc ?_ _)); exact BK327.out) hb); have n9_ := Aside0.mk (below_step (by repeat (first | (with_reducible first | exact HB.out | apply below_alloc | apply pw_below_drewN | apply below_drew1 | refine below_set ?_ GE327.out) | exact HB.out)) hb); clear HO_5; clear HO_6; clear HO_24; clear HO342; clear HO350; clear HO353; clear HO359; clear BK327; clear HB; have HO_5 := n0_; have HO_6 := n1_; have HO_24 := n2_; have HO342 := n3_; have HO350 := n4_; have HO353 := n5_; have HO359 := n6_; have HO364 := n7_; have BK327 := n8_; have HB := n9_; clear n0_ n1_ n2_ n3_ n4_ n5_ n6_ n7_ n8_ n9_; (try clear hb); (try clear hb2); (try clear hk); (try clear hi); (try clear ho0); have hcv51 := own_string (P := Tryd.prog) Tryd.underlying46 Tryd.underlying5 Tryd.underlying9 (Kd.own_of_R HO359.out)) | ((with_reducible refine gate_callee (f := 9) rfl ?_); refine goesL_ (some 75) rfl rfl Tryd.func9 (by kernel_rfl) rfl #[.string (strOfNums y360)] rfl (by (try simp only [List.map_toArray, List.map_cons, List.map_nil]); first | done | rfl | (simp only [List.length_drop, List.length_take]; rfl)) ?_; (with_reducible refine (cutter_All.calls k1 (strOfNums y360) t365 t366 _ A37.out).mono ?_); rintro e w52 ⟨v367, rfl, ho0, hb⟩; refine ⟨_, rfl, ?_⟩; have n0_ := Aside0.mk (Kd.V_elder' (by (with_reducible repeat (first | apply Kd.V_alloc | apply Kd.V_drewN | apply Kd.V_drew)); exact HO_5.out) (Kd.S_base ho0) hb); have n1_ := Aside0.mk (Kd.R_below (by (with_reducible repeat (first | apply Kd.R_alloc | apply Kd.R_drewN | apply Kd.R_drew)); exact HO_6.out) hb); have n2_ := Aside0.mk (Kd.V_elder' (by (with_reducible repeat (first | apply Kd.V_alloc | apply Kd.V_drewN | apply Kd.V_drew)); exact HO_24.out) (Kd.S_base ho0) hb); have n3_ := Aside0.mk (Kd.V_elder' (by (with_reducible repeat (first | apply Kd.V_alloc | apply Kd.V_drewN | apply Kd.V_drew)); exact HO342.out) (Kd.S_base ho0) hb); have n4_ := Aside0.mk (Kd.V_elder' (by (with_reducible repeat (first | apply Kd.V_alloc | apply Kd.V_drewN | apply Kd.V_drew)); exact HO350.out) (Kd.S_base ho0) hb); have n5_ := Aside0.mk (Kd.R_below (by (with_reducible repeat (first | apply Kd.R_alloc | apply Kd.R_drewN | apply Kd.R_drew)); exact HO353.out) hb); have n6_ := Aside0.mk (Kd.R_below (by (with_reducible repeat (first | apply Kd.R_alloc | apply Kd.R_drewN | apply Kd.R_drew)); exact HO359.out) hb); have n7_ := Aside0.mk (Kd.S_elder' (by (with_reducible repeat (first | apply Kd.S_alloc | apply Kd.S_drewN | apply Kd.S_drew)); exact HO364.out) (Kd.S_base ho0) hb); have n8_ := Aside0.mk (Kd.S_lower (Kd.S_new' ho0 (Kd.S_lt (by (with_reducible repeat (first | apply Kd.S_alloc | apply Kd.S_drewN | apply Kd.S_drew)); exact HO364.out))) (below_size (by repeat (first | (with_reducible first | exact HB.out | apply below_alloc | apply pw_below_drewN | apply below_drew1 | refine below_set ?_ GE327.out) | exact HB.out)))); have n9_ := Aside0.mk (blk_below (g := gb327) (o := .cells #[.int .i64 a0_0, .int .i64 a0_1, .int .i64 0, .int .i64 a0_3, .int .i64 0, .bool a0_5, .int .i64 0] 23 (0, 0)) (by (with_reducible repeat (first | refine blk_drewN ?_ _ | refine blk_drew ?_ | refine blk_alloc ?_ _)); exact BK327.out) hb); have n10_ := Aside0.mk (below_step (by repeat (first | (with_reducible first | exact HB.out | apply below_alloc | apply pw_below_drewN | apply below_drew1 | refine below_set ?_ GE327.out) | exact HB.out)) hb); clear HO_5; clear HO_6; clear HO_24; clear HO342; clear HO350; clear HO353; clear HO359; clear HO364; clear BK327; clear HB; have HO_5 := n0_; have HO_6 := n1_; have HO_24 := n2_; have HO342 := n3_; have HO350 := n4_; have HO353 := n5_; have HO359 := n6_; have HO364 := n7_; have HO368 := n8_; have BK327 := n9_; have HB := n10_; clear n0_ n1_ n2_ n3_ n4_ n5_ n6_ n7_ n8_ n9_ n10_; (try clear hb); (try clear hb2); (try clear hk); (try clear hi); (try clear ho0)))
                                   go_ret
                                   exact ⟨by first | rfl | (simp [errW_none, errW_some] <;> rfl) | (simp only [← hji22, ← hji28]; first | rfl | (simp [errW_none, errW_some] <;> rfl)) | (simp [*, errW_none, errW_some] <;> rfl), by repeat (first | (with_reducible first | exact HB.out | apply below_alloc | apply pw_below_drewN | apply below_drew1 | refine below_set ?_ GE327.out) | exact HB.out)⟩
                                 · rw [if_neg c38] at H
                                   have c38b0 : (t362 == 400) = false := beq_eq_false_iff_ne.mpr c38
                                   have c38b1 : (t362 != 400) = true := bne_iff_ne.mpr c38
                                   obtain rfl := Option.some.inj H
                                   obtain ⟨Ao53, co53, eo53⟩ := Kd.R_slice HO_6.out
                                   subst eo53
                                   have p337 : 0 ≤ ((ji22) : Int) := of_decide_eq_true (by first | (with_reducible assumption) | assumption)
                                   have q337 : (ji22) < (x6_1.length : Int) := of_decide_eq_true (by first | (with_reducible assumption) | assumption)
                                   obtain ⟨ad337, e337, hx337_0⟩ := Kd.at_int (Kd.R_reads' HO_6.out).2.2 (ji22) p337 q337
                                   cases e337
                                   replace p337 := eq_true p337
                                   replace q337 := eq_true q337
                                   try go_wp2
                                   have n0_ := Aside0.mk (Kd.V_drew HO_5.out)
                                   have n1_ := Aside0.mk (Kd.R_drew HO_6.out)
                                   have n2_ := Aside0.mk (Kd.V_drew HO_24.out)
                                   have n3_ := Aside0.mk (blk_drew BK327.out)
                                   have n4_ := Aside0.mk (below_drew1 HB.out)
                                   clear HO_5 HO_6 HO_24 BK327 HB
                                   have HO_5 := n0_
                                   have HO_6 := n1_
                                   have HO_24 := n2_
                                   have BK327 := n3_
                                   have HB := n4_
                                   clear n0_ n1_ n2_ n3_ n4_
                                   have q55 : ((rd x6_1 (ji22)) : Int) ≤ ((y330.length : Int) : Int) := of_decide_eq_true (by first | (with_reducible assumption) | assumption)
                                   obtain ⟨i055, hi055, _, hsz55, _⟩ := info_parts info5
                                   have hroom55 : y330.length ≤ co13 := (Kd.V_reads' HO_5.out).2.1
                                   have hC55 : Kd.F (Kd.int .u8) _ _ Ao13 y330.length y330 := (Kd.V_at (base := w.heap.size) HO_5.out).2.2
                                   have hcut55 := cut_to (P := Tryd.prog) 46 5 .i64 Tryd.underlying46 hi055 Ao13 y330.length co13 (rd x6_1 (ji22)) (of_decide_eq_true (by first | (with_reducible assumption) | assumption)) q55 hroom55
                                   have hr55 := Kd.F_take (m := ((rd x6_1 (ji22)) : Int).toNat) hC55 (by omega)
                                   have hy55 : y338.length = ((rd x6_1 (ji22)) : Int).toNat := (by rw [Ny338.out, List.length_take]; omega)
                                   rw [← Ny338.out] at hr55
                                   rw [← hy55] at hcut55
                                   have HO342 := Aside0.mk (show Kd.V (Kd.int .u8) 5 _ w.heap.size _ (.slice Ao13 y338.length co13) y338 from Kd.V_mk (by omega) hr55)
                                   have HC342 := Aside0.mk (show y338.length ≤ co13 from by omega)
                                   clear hr55 hC55 hroom55 hi055 hsz55
                                   have KY55 := Aside0.mk hy55
                                   clear hy55
                                   replace q55 := eq_true q55
                                   have q56 : ((ji28) : Int) ≤ ((y330.length : Int) : Int) := of_decide_eq_true (by first | (with_reducible assumption) | assumption)
                                   obtain ⟨i056, hi056, _, hsz56, _⟩ := info_parts info5
                                   have hroom56 : y330.length ≤ co13 := (Kd.V_reads' HO_5.out).2.1
                                   have hC56 : Kd.F (Kd.int .u8) _ _ Ao13 y330.length y330 := (Kd.V_at (base := w.heap.size) HO_5.out).2.2
                                   have q056 : (0 : Int) ≤ ((ji28) : Int) := of_decide_eq_true (by first | (with_reducible assumption) | assumption)
                                   have hcut56 := cut_from (P := Tryd.prog) 46 5 .i64 Tryd.underlying46 hi056 1 hsz56 Ao13 y330.length co13 (ji28) q056 q56
                                   have hr56 := Kd.F_cut (m := ((ji28) : Int).toNat) (c := co13) hC56 (by omega) hroom56
                                   obtain ⟨A56, hA56⟩ : ∃ A1, A1 = (if co13 = ((ji28) : Int).toNat then Ao13 else (Ao13 : Option Addr).map (·.add (((ji28) : Int).toNat * 1))) := ⟨_, rfl⟩
                                   obtain ⟨c56, hc56⟩ : ∃ c1, c1 = co13 - ((ji28) : Int).toNat := ⟨_, rfl⟩
                                   have hy56 : y346.length = y330.length - ((ji28) : Int).toNat := (by rw [Ny346.out, List.length_drop] <;> omega)
                                   rw [show (y330).drop ((ji28) : Int).toNat = y346 from Ny346.out.symm] at hr56
                                   replace hr56 : Kd.F (Kd.int .u8) _ _ A56 y346.length y346 := (by rw [hA56]; exact hr56)
                                   rw [← hy56, ← hA56, ← hc56] at hcut56
                                   have HO350 := Aside0.mk (show Kd.V (Kd.int .u8) 5 _ w.heap.size _ (.slice A56 y346.length c56) y346 from Kd.V_mk (by rw [hy56, hc56]; exact Nat.sub_le_sub_right hroom56 _) hr56)
                                   have HC350 := Aside0.mk (show y346.length ≤ c56 from by rw [hy56, hc56]; exact Nat.sub_le_sub_right hroom56 _)
                                   clear hr56 hC56 hroom56 hi056 hsz56 hc56
                                   have KY56 := Aside0.mk hy56
                                   have KA56 := Aside0.mk hA56
                                   clear hy56 hA56
                                   replace q56 := eq_true q56
                                   refine start_ (n := 10) (S := fun w' => True) (ds := []) #[false, false, false, false, false, false, false, false, false, false] (by kernel_rfl) rfl rfl trivial (fun hHeld => ?_); refine with_tabW crossroadlaw04_CutterLines.tab15 crossroadlaw04_CutterLines.bits15 (fun HT_ HW_ => ?_)
                                   generalize wr.drew = w54 at HO_5 HO_6 HO_24 BK327 HB HO342 HO350 hHeld ⊢
                                   refine pure_ (i := 0) (N := some 49) (v := ?_) (a' := ?_) #[true, false, false, false, false, false, false, false, false, false] rfl rfl (any_of HT_.out (by kernel_rfl)) (fun _ _ _ h => h) (Or.inl ⟨by rfl, ?_⟩) ?_ ?_
                                   rotate_left
                                   · intro w'
                                     go_simp
                                     with_reducible rfl
                                   rotate_left
                                   · simp only [Act.put, List.setIfInBounds_toArray, List.set_cons_zero, List.set_cons_succ, i64_w, i32_w]
                                     rfl
                                   refine pure_ (i := 1) (N := some 50) (v := ?_) (a' := ?_) #[true, true, false, false, false, false, false, false, false, false] rfl rfl (any_of HT_.out (by kernel_rfl)) (fun _ _ _ h => h) (Or.inl ⟨by rfl, ?_⟩) ?_ ?_
                                   rotate_left
                                   · intro w'
                                     go_simp
                                     with_reducible rfl
                                   rotate_left
                                   · simp only [Act.put, List.setIfInBounds_toArray, List.set_cons_zero, List.set_cons_succ, i64_w, i32_w]
                                     rfl
                                   refine pure_ (i := 2) (N := some 51) (v := ?_) (a' := ?_) #[true, true, true, false, false, false, false, false, false, false] rfl rfl (any_of HT_.out (by kernel_rfl)) (fun _ _ _ h => h) (Or.inl ⟨by rfl, ?_⟩) ?_ ?_
                                   rotate_left
                                   · intro w'
                                     go_simp
                                     with_reducible rfl
                                   rotate_left
                                   · simp only [Act.put, List.setIfInBounds_toArray, List.set_cons_zero, List.set_cons_succ, i64_w, i32_w]
                                     rfl
                                   refine pure_ (i := 4) (N := some 53) (v := ?_) (a' := ?_) #[true, true, true, false, true, false, false, false, false, false] rfl rfl (any_of HT_.out (by kernel_rfl)) (fun _ _ _ h => h) (Or.inl ⟨by rfl, ?_⟩) ?_ ?_
                                   rotate_left
                                   · intro w'
                                     go_simp
                                     with_reducible rfl
                                   rotate_left
                                   · simp only [Act.put, List.setIfInBounds_toArray, List.set_cons_zero, List.set_cons_succ, i64_w, i32_w]
                                     rfl
                                   refine pure_ (i := 5) (N := some 54) (v := ?_) (a' := ?_) #[true, true, true, false, true, true, false, false, false, false] rfl rfl (any_of HT_.out (by kernel_rfl)) (fun _ _ _ h => h) (Or.inl ⟨by rfl, ?_⟩) ?_ ?_
                                   rotate_left
                                   · intro w'
                                     go_simp
                                     with_reducible rfl
                                   rotate_left
                                   · simp only [Act.put, List.setIfInBounds_toArray, List.set_cons_zero, List.set_cons_succ, i64_w, i32_w]
                                     rfl
                                   refine pure_ (i := 6) (N := some 55) (v := ?_) (a' := ?_) #[true, true, true, false, true, true, true, false, false, false] rfl rfl (any_of HT_.out (by kernel_rfl)) (fun _ _ _ h => h) (Or.inl ⟨by rfl, ?_⟩) ?_ ?_
                                   rotate_left
                                   · intro w'
                                     go_simp
                                     with_reducible rfl
                                   rotate_left
                                   · simp only [Act.put, List.setIfInBounds_toArray, List.set_cons_zero, List.set_cons_succ, i64_w, i32_w]
                                     rfl
                                   refine pure_ (i := 7) (N := some 56) (v := ?_) (a' := ?_) #[true, true, true, false, true, true, true, true, false, false] rfl rfl (any_of HT_.out (by kernel_rfl)) (fun _ _ _ h => h) (Or.inl ⟨by rfl, ?_⟩) ?_ ?_
                                   rotate_left
                                   · intro w'
                                     go_simp
                                     with_reducible rfl
                                   rotate_left
                                   · simp only [Act.put, List.setIfInBounds_toArray, List.set_cons_zero, List.set_cons_succ, i64_w, i32_w]
                                     rfl
                                   refine one_ (i := 3) (N := some 52) #[true, true, true, true, true, true, true, true, false, false] rfl rfl (one_of HT_.out (by kernel_rfl)) (by decide) (fun K hK => ?_)
                                   refine Kd.R_append_rows_step (Kd.int .u8) (w0 := w) w.heap.size rfl (.const (.slice none 0 0)) (.tmp 51) 46 5 (.int .u8 0) 1 rfl Tryd.underlying46 info5 rfl (by decide) (by omega) (.slice none 0 0) ([] : List Int) y338 _ _ _ (fun _ => True) (fun _ => False) rfl rfl ?aO ?aR (fun _ _ h => h) (fun _ h => h.elim) ?aF ?aB ?aS ?aL ?_
                                   (case aR => repeat (first | exact (Kd.V_reads' HO342.out).2.2 | (with_reducible refine Kd.C_alloc ?_ _) | (with_reducible refine Kd.C_drewN ?_ _) | (with_reducible refine Kd.C_drew ?_)))
                                   (case aB => exact (by repeat (first | (with_reducible first | exact HB.out | apply below_alloc | apply pw_below_drewN | apply below_drew1 | refine below_set ?_ GE327.out) | exact HB.out)))
                                   (case aF => exact (fun _ _ => trivial))
                                   (case aO => exact ((Kd.R_nil _ _ _ _ (fun _ => True))))
                                   (case aS => exact (below_size (by repeat (first | (with_reducible first | exact HB.out | apply below_alloc | apply pw_below_drewN | apply below_drew1 | refine below_set ?_ GE327.out) | exact HB.out))))
                                   (case aL => have := LMc27.out; omega)
                                   intro v344 w57 ho hb hg hat
                                   rw [← Ny343.out] at ho
                                   have n0_ := Aside0.mk (Kd.V_afterv (Kd.V_apart_nil (by (with_reducible repeat (first | apply Kd.V_alloc | apply Kd.V_drewN | apply Kd.V_drew)); exact HO_5.out)) hg hat)
                                   have n1_ := Aside0.mk (Kd.R_grown (by (with_reducible repeat (first | apply Kd.R_alloc | apply Kd.R_drewN | apply Kd.R_drew)); exact HO_6.out) hg (fun _ _ => by simp [Value.ownBlock]))
                                   have n2_ := Aside0.mk (Kd.V_afterv (Kd.V_apart_nil (by (with_reducible repeat (first | apply Kd.V_alloc | apply Kd.V_drewN | apply Kd.V_drew)); exact HO_24.out)) hg hat)
                                   have n3_ := Aside0.mk (blk_grown (g := gb327) (o := .cells #[.int .i64 a0_0, .int .i64 a0_1, .int .i64 0, .int .i64 a0_3, .int .i64 0, .bool a0_5, .int .i64 0] 23 (0, 0)) (by (with_reducible repeat (first | refine blk_drewN ?_ _ | refine blk_drew ?_ | refine blk_alloc ?_ _)); exact BK327.out) hg (by simp [Value.ownBlock]))
                                   have n4_ := Aside0.mk (Kd.V_afterv (Kd.V_apart_nil (by (with_reducible repeat (first | apply Kd.V_alloc | apply Kd.V_drewN | apply Kd.V_drew)); exact HO342.out)) hg hat)
                                   have n5_ := Aside0.mk (Kd.V_afterv (Kd.V_apart_nil (by (with_reducible repeat (first | apply Kd.V_alloc | apply Kd.V_drewN | apply Kd.V_drew)); exact HO350.out)) hg hat)
                                   have n6_ := Aside0.mk (hb)
                                   have n7_ := Aside0.mk (ho)
                                   clear HO_5 HO_6 HO_24 BK327 HO342 HO350 HB
                                   have HO_5 := n0_
                                   have HO_6 := n1_
                                   have HO_24 := n2_
                                   have BK327 := n3_
                                   have HO342 := n4_
                                   have HO350 := n5_
                                   have HB := n6_
                                   have HO345 := n7_
                                   clear n0_ n1_ n2_ n3_ n4_ n5_ n6_ n7_ ho hb hg hat
                                   refine hK.out _ _ trivial (fun hHeld => ?_)
                                   clear hK K
                                   refine norm_ (a' := ?_) ?_ ?_
                                   rotate_left
                                   · show Act.put _ (some 52) _ = _
                                     simp only [Act.put, List.setIfInBounds_toArray, List.set_cons_zero, List.set_cons_succ, i64_w, i32_w]
                                     rfl
                                   refine one_ (i := 8) (N := some 57) #[true, true, true, true, true, true, true, true, true, false] rfl rfl (one_of HT_.out (by kernel_rfl)) (by decide) (fun K hK => ?_)
                                   refine Kd.R_append_rows_step (Kd.int .u8) (w0 := w) w.heap.size (by rfl) (.tmp 52) (.tmp 56) 46 5 (.int .u8 0) 1 rfl Tryd.underlying46 info5 rfl (by decide) (by omega) v344 y343 y346 _ _ _ (fun _ => True) (fun _ => False) rfl rfl ?aO ?aR (fun _ _ h => h) (fun _ h => h.elim) ?aF ?aB ?aS ?aL ?_
                                   (case aR => repeat (first | exact (Kd.V_reads' HO350.out).2.2 | (with_reducible refine Kd.C_alloc ?_ _) | (with_reducible refine Kd.C_drewN ?_ _) | (with_reducible refine Kd.C_drew ?_)))
                                   (case aB => exact (by repeat (first | (with_reducible first | exact HB.out | apply below_alloc | apply pw_below_drewN | apply below_drew1 | refine below_set ?_ GE327.out) | exact HB.out)))
                                   (case aF => exact (fun _ _ => trivial))
                                   (case aO => exact (by (with_reducible repeat (first | apply Kd.R_alloc | apply Kd.R_drewN | apply Kd.R_drew)); exact HO345.out))
                                   (case aS => exact (below_size (by repeat (first | (with_reducible first | exact HB.out | apply below_alloc | apply pw_below_drewN | apply below_drew1 | refine below_set ?_ GE327.out) | exact HB.out))))
                                   (case aL => have := LMc31.out; omega)
                                   intro v352 w58 ho hb hg hat
                                   rw [← Ny351.out] at ho
                                   have n0_ := Aside0.mk (Kd.V_afterv (ok := (fun k_ => some k_ ≠ (.slice (some ad337) x6_1.length co53 : Value).ownBlock ∧ k_ ≠ gb327)) (by (with_reducible repeat (first | apply Kd.V_alloc | apply Kd.V_drewN | apply Kd.V_drew)); exact HO_5.out) hg hat)
                                   have n1_ := Aside0.mk (Kd.R_over' (by (with_reducible repeat (first | apply Kd.R_alloc | apply Kd.R_drewN | apply Kd.R_drew)); exact HO_6.out) (Kd.R_typed (by (with_reducible repeat (first | apply Kd.R_alloc | apply Kd.R_drewN | apply Kd.R_drew)); exact HO345.out)) (by decide) hg)
                                   have n2_ := Aside0.mk (Kd.V_afterv (ok := (fun k_ => some k_ ≠ (.slice (some ad337) x6_1.length co53 : Value).ownBlock ∧ k_ ≠ gb327)) (by (with_reducible repeat (first | apply Kd.V_alloc | apply Kd.V_drewN | apply Kd.V_drew)); exact HO_24.out) hg hat)
                                   have n3_ := Aside0.mk (blk_grown (g := gb327) (o := .cells #[.int .i64 a0_0, .int .i64 a0_1, .int .i64 0, .int .i64 a0_3, .int .i64 0, .bool a0_5, .int .i64 0] 23 (0, 0)) (by (with_reducible repeat (first | refine blk_drewN ?_ _ | refine blk_drew ?_ | refine blk_alloc ?_ _)); exact BK327.out) hg (Kd.R_ne HO345.out BK327.out (by decide)))
                                   have n4_ := Aside0.mk (Kd.V_afterv (ok := (fun k_ => some k_ ≠ (.slice (some ad337) x6_1.length co53 : Value).ownBlock ∧ k_ ≠ gb327)) (by (with_reducible repeat (first | apply Kd.V_alloc | apply Kd.V_drewN | apply Kd.V_drew)); exact HO342.out) hg hat)
                                   have n5_ := Aside0.mk (Kd.V_afterv (ok := (fun k_ => some k_ ≠ (.slice (some ad337) x6_1.length co53 : Value).ownBlock ∧ k_ ≠ gb327)) (by (with_reducible repeat (first | apply Kd.V_alloc | apply Kd.V_drewN | apply Kd.V_drew)); exact HO350.out) hg hat)
                                   have n6_ := Aside0.mk (hb)
                                   have n7_ := Aside0.mk (ho)
                                   clear HO_5 HO_6 HO_24 BK327 HO342 HO350 HB HO345
                                   have HO_5 := n0_
                                   have HO_6 := n1_
                                   have HO_24 := n2_
                                   have BK327 := n3_
                                   have HO342 := n4_
                                   have HO350 := n5_
                                   have HB := n6_
                                   have HO353 := n7_
                                   clear n0_ n1_ n2_ n3_ n4_ n5_ n6_ n7_ ho hb hg hat
                                   refine hK.out _ _ trivial (fun hHeld => ?_)
                                   clear hK K
                                   refine norm_ (a' := ?_) ?_ ?_
                                   rotate_left
                                   · show Act.put _ (some 57) _ = _
                                     simp only [Act.put, List.setIfInBounds_toArray, List.set_cons_zero, List.set_cons_succ, i64_w, i32_w]
                                     rfl
                                   refine pure_ (i := 9) (N := some 10) (v := ?_) (a' := ?_) #[true, true, true, true, true, true, true, true, true, true] rfl rfl (any_of HT_.out (by kernel_rfl)) (fun _ _ _ h => h) (Or.inl ⟨by rfl, ?_⟩) ?_ ?_
                                   rotate_left
                                   · intro w'
                                     go_simp
                                     with_reducible rfl
                                   rotate_left
                                   · simp only [Act.put, List.setIfInBounds_toArray, List.set_cons_zero, List.set_cons_succ, i64_w, i32_w]
                                     rfl
                                   refine done_ (done_of HT_.out (by kernel_rfl)) ?_
                                   try go_wp2_with (first | ((with_reducible refine gate_builtin (b := .append) (xs := #[.const (.slice none 0 0), .tmp 58]) rfl ?_); at_builtin; refine Kd.R_append_rows (Kd.int .u8) (w0 := w) w.heap.size rfl (.const (.slice none 0 0)) (.tmp 58) 46 5 (.int .u8 0) 1 rfl Tryd.underlying46 info5 rfl (by decide) (by omega) (.slice none 0 0) ([] : List Int) y330 _ _ _ (fun k_ => some k_ ≠ (v352 : Value).ownBlock) (fun _ => False) rfl rfl ?aO ?aR (fun _ _ h => h) (fun _ h => h.elim) ?aF ?aB ?aS ?aL ?_; (case aR => repeat (first | exact (Kd.V_reads' HO_5.out).2.2 | (with_reducible refine Kd.C_alloc ?_ _) | (with_reducible refine Kd.C_drewN ?_ _) | (with_reducible refine Kd.C_drew ?_))); (case aB => exact (by repeat (first | (with_reducible first | exact HB.out | apply below_alloc | apply pw_below_drewN | apply below_drew1 | refine below_set ?_ GE327.out) | exact HB.out))); (case aF => exact (fun k_ hk => Kd.fresh' (Kd.R_lt (by (with_reducible repeat (first | apply Kd.R_alloc | apply Kd.R_drewN | apply Kd.R_drew)); exact HO353.out)) k_ hk)); (case aO => exact ((Kd.R_nil _ _ _ _ (fun k_ => some k_ ≠ (v352 : Value).ownBlock)))); (case aS => exact (below_size (by repeat (first | (with_reducible first | exact HB.out | apply below_alloc | apply pw_below_drewN | apply below_drew1 | refine below_set ?_ GE327.out) | exact HB.out)))); (case aL => have := LMc32.out; omega); intro v355 w59 ho hb hg hat; rw [← Ny354.out] at ho; have n0_ := Aside0.mk (Kd.V_afterv (Kd.V_apart_nil (by (with_reducible repeat (first | apply Kd.V_alloc | apply Kd.V_drewN | apply Kd.V_drew)); exact HO_5.out)) hg hat); have n1_ := Aside0.mk (Kd.R_grown (by (with_reducible repeat (first | apply Kd.R_alloc | apply Kd.R_drewN | apply Kd.R_drew)); exact HO_6.out) hg (fun _ _ => by simp [Value.ownBlock])); have n2_ := Aside0.mk (Kd.V_afterv (Kd.V_apart_nil (by (with_reducible repeat (first | apply Kd.V_alloc | apply Kd.V_drewN | apply Kd.V_drew)); exact HO_24.out)) hg hat); have n3_ := Aside0.mk (blk_grown (g := gb327) (o := .cells #[.int .i64 a0_0, .int .i64 a0_1, .int .i64 0, .int .i64 a0_3, .int .i64 0, .bool a0_5, .int .i64 0] 23 (0, 0)) (by (with_reducible repeat (first | refine blk_drewN ?_ _ | refine blk_drew ?_ | refine blk_alloc ?_ _)); exact BK327.out) hg (by simp [Value.ownBlock])); have n4_ := Aside0.mk (Kd.V_afterv (Kd.V_apart_nil (by (with_reducible repeat (first | apply Kd.V_alloc | apply Kd.V_drewN | apply Kd.V_drew)); exact HO342.out)) hg hat); have n5_ := Aside0.mk (Kd.V_afterv (Kd.V_apart_nil (by (with_reducible repeat (first | apply Kd.V_alloc | apply Kd.V_drewN | apply Kd.V_drew)); exact HO350.out)) hg hat); have n6_ := Aside0.mk (Kd.R_after (Kd.R_apart_nil (by (with_reducible repeat (first | apply Kd.R_alloc | apply Kd.R_drewN | apply Kd.R_drew)); exact HO353.out)) hg hat); have n7_ := Aside0.mk (hb); have n8_ := Aside0.mk (ho); clear HO_5; clear HO_6; clear HO_24; clear BK327; clear HO342; clear HO350; clear HO353; clear HB; have HO_5 := n0_; have HO_6 := n1_; have HO_24 := n2_; have BK327 := n3_; have HO342 := n4_; have HO350 := n5_; have HO353 := n6_; have HB := n7_; have HO356 := n8_; clear n0_ n1_ n2_ n3_ n4_ n5_ n6_ n7_ n8_; clear ho hb hg hat) | ((with_reducible refine gate_builtin (b := .append) (xs := #[.tmp 59, .tmp 60]) rfl ?_); at_builtin; refine Kd.R_append (Kd.int .u8) (w0 := w) w.heap.size rfl (.tmp 59) (.tmp 60) 46 5 (.int .u8 0) 1 rfl Tryd.underlying46 info5 rfl (by decide) (by omega) v355 y354 120 [.int .u8 120] (fun k_ => some k_ ≠ (v352 : Value).ownBlock) (fun _ => False) rfl rfl ?aP (fun _ hk => hk.elim) ?aF ?aO ?aB ?aS ?aL ?_; (case aP => exact rfl); (case aB => exact (by repeat (first | (with_reducible first | exact HB.out | apply below_alloc | apply pw_below_drewN | apply below_drew1 | refine below_set ?_ GE327.out) | exact HB.out))); (case aF => exact (fun k_ hk => Kd.fresh' (Kd.R_lt (by (with_reducible repeat (first | apply Kd.R_alloc | apply Kd.R_drewN | apply Kd.R_drew)); exact HO353.out)) k_ hk)); (case aO => exact (by (with_reducible repeat (first | apply Kd.R_alloc | apply Kd.R_drewN | apply Kd.R_drew)); exact HO356.out)); (case aS => exact (below_size (by repeat (first | (with_reducible first | exact HB.out | apply below_alloc | apply pw_below_drewN | apply below_drew1 | refine below_set ?_ GE327.out) | exact HB.out)))); (case aL => have := LMc33.out; omega); intro v358 w60 ho hb hg hat; rw [← Ny357.out] at ho; have n0_ := Aside0.mk (Kd.V_afterv (ok := (fun k_ => some k_ ≠ (.slice (some ad337) x6_1.length co53 : Value).ownBlock ∧ some k_ ≠ (v352 : Value).ownBlock ∧ k_ ≠ gb327)) (by (with_reducible repeat (first | apply Kd.V_alloc | apply Kd.V_drewN | apply Kd.V_drew)); exact Kd.V_mono HO_5.out (fun _ hk => ⟨⟨hk.1.1.1, ⟨hk.1.2, hk.1.1.2⟩⟩, hk.2⟩)) hg hat); have n1_ := Aside0.mk (Kd.R_over' (by (with_reducible repeat (first | apply Kd.R_alloc | apply Kd.R_drewN | apply Kd.R_drew)); exact HO_6.out) (Kd.R_typed (by (with_reducible repeat (first | apply Kd.R_alloc | apply Kd.R_drewN | apply Kd.R_drew)); exact HO356.out)) (by decide) hg); have n2_ := Aside0.mk (Kd.V_afterv (ok := (fun k_ => some k_ ≠ (.slice (some ad337) x6_1.length co53 : Value).ownBlock ∧ some k_ ≠ (v352 : Value).ownBlock ∧ k_ ≠ gb327)) (by (with_reducible repeat (first | apply Kd.V_alloc | apply Kd.V_drewN | apply Kd.V_drew)); exact Kd.V_mono HO_24.out (fun _ hk => ⟨⟨hk.1.1.1, ⟨hk.1.2, hk.1.1.2⟩⟩, hk.2⟩)) hg hat); have n3_ := Aside0.mk (blk_grown (g := gb327) (o := .cells #[.int .i64 a0_0, .int .i64 a0_1, .int .i64 0, .int .i64 a0_3, .int .i64 0, .bool a0_5, .int .i64 0] 23 (0, 0)) (by (with_reducible repeat (first | refine blk_drewN ?_ _ | refine blk_drew ?_ | refine blk_alloc ?_ _)); exact BK327.out) hg (Kd.R_ne HO356.out BK327.out (by decide))); have n4_ := Aside0.mk (Kd.V_afterv (ok := (fun k_ => some k_ ≠ (.slice (some ad337) x6_1.length co53 : Value).ownBlock ∧ some k_ ≠ (v352 : Value).ownBlock ∧ k_ ≠ gb327)) (by (with_reducible repeat (first | apply Kd.V_alloc | apply Kd.V_drewN | apply Kd.V_drew)); exact Kd.V_mono HO342.out (fun _ hk => ⟨⟨hk.1.1.1, ⟨hk.1.2, hk.1.1.2⟩⟩, hk.2⟩)) hg hat); have n5_ := Aside0.mk (Kd.V_afterv (ok := (fun k_ => some k_ ≠ (.slice (some ad337) x6_1.length co53 : Value).ownBlock ∧ some k_ ≠ (v352 : Value).ownBlock ∧ k_ ≠ gb327)) (by (with_reducible repeat (first | apply Kd.V_alloc | apply Kd.V_drewN | apply Kd.V_drew)); exact Kd.V_mono HO350.out (fun _ hk => ⟨⟨hk.1.1.1, ⟨hk.1.2, hk.1.1.2⟩⟩, hk.2⟩)) hg hat); have n6_ := Aside0.mk (Kd.R_after (ok := (fun _ => True)) (by (with_reducible repeat (first | apply Kd.R_alloc | apply Kd.R_drewN | apply Kd.R_drew)); exact HO353.out) hg hat); have n7_ := Aside0.mk (hb); have n8_ := Aside0.mk (ho); clear HO_5; clear HO_6; clear HO_24; clear BK327; clear HO342; clear HO350; clear HO353; clear HB; clear HO356; have HO_5 := n0_; have HO_6 := n1_; have HO_24 := n2_; have BK327 := n3_; have HO342 := n4_; have HO350 := n5_; have HO353 := n6_; have HB := n7_; have HO359 := n8_; clear n0_ n1_ n2_ n3_ n4_ n5_ n6_ n7_ n8_; clear ho hb hg hat; have p35 : 0 ≤ ((ji28) : Int) := of_decide_eq_true (by first | (with_reducible assumption) | assumption); have q35 : ((ji28) : Int) < ((y357.length : Int) : Int) := of_decide_eq_true (by first | (with_reducible assumption) | assumption); obtain ⟨go35, co35, eo35, gb35, gl35, cl35, HG35⟩ := Kd.R_form HO359.out (by omega); (first | cases eo35 | (injection eo35 with ea_ en_ ec_; (first | subst ea_ | (injection ea_ with ea_; subst ea_)); subst ec_; clear en_)); have GB35 := Aside0.mk gb35; have GG35 := Aside0.mk HG35; clear gb35 gl35 HG35; obtain ⟨hx35_0, hf35_0⟩ := Kd.R_celln 0 HO359.out ((ji28) : Int) p35 q35; replace p35 := eq_true p35; replace q35 := eq_true q35; obtain ⟨hy61_, hz61_⟩ := Kd.R_celln 0 HO359.out ((ji28) : Int) (of_decide_eq_true (by first | (with_reducible assumption) | assumption)) (of_decide_eq_true (by first | (with_reducible assumption) | assumption)); have HP61 := Kd.R_putg HO359.out ((ji28) : Int) 120) | ((with_reducible refine gate_store (t := 5) (p := 65) rfl ?_); refine store_event (t := 5) (p := 65) (v := ?vo_w62) (w1 := (w60.setCell ⟨go35, ((ji28) : Int).toNat, none⟩ (.int .u8 120))) ?hg ?ho ?hn ?hr ?_; (case ho => rfl); (case hg => rfl); (case hn => rfl); (case hr => first | (go_simp; done) | (go_simp; rfl)); intro w62 hw; have hg : w60.grownBy w62 (some go35) := (by rw [hw]; exact HP61.2); have hp_ : Kd.R (Kd.int .u8) 5 w62 w.heap.size (fun k_ => some k_ ≠ (v352 : Value).ownBlock) (.slice (some ⟨go35, 0, none⟩) y357.length co35) y360 := (by rw [hw, Ny360.out]; exact HP61.1); clear HP61; have n0_ := Aside0.mk (Kd.V_afterv (v := (.slice (some ⟨go35, 0, none⟩) y357.length co35)) (v1 := (.slice (some ⟨go35, 0, none⟩) y357.length co35)) (ok := (fun k_ => some k_ ≠ (.slice (some ad337) x6_1.length co53 : Value).ownBlock ∧ some k_ ≠ (v352 : Value).ownBlock ∧ k_ ≠ gb327)) (by (with_reducible repeat (first | apply Kd.V_alloc | apply Kd.V_drewN | apply Kd.V_drew)); exact HO_5.out) hg (.inl rfl)); have n1_ := Aside0.mk (Kd.R_over' (v := (.slice (some ⟨go35, 0, none⟩) y357.length co35)) (by (with_reducible repeat (first | apply Kd.R_alloc | apply Kd.R_drewN | apply Kd.R_drew)); exact HO_6.out) (Kd.R_typed HO359.out) (by decide) hg); have n2_ := Aside0.mk (Kd.V_afterv (v := (.slice (some ⟨go35, 0, none⟩) y357.length co35)) (v1 := (.slice (some ⟨go35, 0, none⟩) y357.length co35)) (ok := (fun k_ => some k_ ≠ (.slice (some ad337) x6_1.length co53 : Value).ownBlock ∧ some k_ ≠ (v352 : Value).ownBlock ∧ k_ ≠ gb327)) (by (with_reducible repeat (first | apply Kd.V_alloc | apply Kd.V_drewN | apply Kd.V_drew)); exact HO_24.out) hg (.inl rfl)); have n3_ := Aside0.mk (blk_grown (g := gb327) (o := .cells #[.int .i64 a0_0, .int .i64 a0_1, .int .i64 0, .int .i64 a0_3, .int .i64 0, .bool a0_5, .int .i64 0] 23 (0, 0)) (by (with_reducible repeat (first | refine blk_drewN ?_ _ | refine blk_drew ?_ | refine blk_alloc ?_ _)); exact BK327.out) hg (Kd.R_ne HO359.out BK327.out (by decide))); have n4_ := Aside0.mk (Kd.V_afterv (v := (.slice (some ⟨go35, 0, none⟩) y357.length co35)) (v1 := (.slice (some ⟨go35, 0, none⟩) y357.length co35)) (ok := (fun k_ => some k_ ≠ (.slice (some ad337) x6_1.length co53 : Value).ownBlock ∧ some k_ ≠ (v352 : Value).ownBlock ∧ k_ ≠ gb327)) (by (with_reducible repeat (first | apply Kd.V_alloc | apply Kd.V_drewN | apply Kd.V_drew)); exact HO342.out) hg (.inl rfl)); have n5_ := Aside0.mk (Kd.V_afterv (v := (.slice (some ⟨go35, 0, none⟩) y357.length co35)) (v1 := (.slice (some ⟨go35, 0, none⟩) y357.length co35)) (ok := (fun k_ => some k_ ≠ (.slice (some ad337) x6_1.length co53 : Value).ownBlock ∧ some k_ ≠ (v352 : Value).ownBlock ∧ k_ ≠ gb327)) (by (with_reducible repeat (first | apply Kd.V_alloc | apply Kd.V_drewN | apply Kd.V_drew)); exact HO350.out) hg (.inl rfl)); have n6_ := Aside0.mk (Kd.R_after (v := (.slice (some ⟨go35, 0, none⟩) y357.length co35)) (v1 := (.slice (some ⟨go35, 0, none⟩) y357.length co35)) (ok := (fun _ => True)) (by (with_reducible repeat (first | apply Kd.R_alloc | apply Kd.R_drewN | apply Kd.R_drew)); exact HO353.out) hg (.inl rfl)); have n7_ := Aside0.mk (hp_); have n8_ := Aside0.mk ((by rw [hw]; exact below_set (HB.out) GB35.out : Below w.heap.size w w62)); clear HO_5; clear HO_6; clear HO_24; clear BK327; clear HO342; clear HO350; clear HO353; clear HO359; clear HB; have HO_5 := n0_; have HO_6 := n1_; have HO_24 := n2_; have BK327 := n3_; have HO342 := n4_; have HO350 := n5_; have HO353 := n6_; have HO359 := n7_; have HB := n8_; clear n0_ n1_ n2_ n3_ n4_ n5_ n6_ n7_ n8_; clear hg hw hp_; have hcv63 := own_string (P := Tryd.prog) Tryd.underlying46 Tryd.underlying5 Tryd.underlying9 (Kd.own_of_R HO353.out)) | ((with_reducible refine gate_callee (f := 9) rfl ?_); refine goesL_ (some 69) rfl rfl Tryd.func9 (by kernel_rfl) rfl #[.string (strOfNums y351)] rfl (by (try simp only [List.map_toArray, List.map_cons, List.map_nil]); first | done | rfl | (simp only [List.length_drop, List.length_take]; rfl)) ?_; (with_reducible refine (cutter_All.calls k1 (strOfNums y351) t361 t362 _ A36.out).mono ?_); rintro e w64 ⟨v363, rfl, ho0, hb⟩; refine ⟨_, rfl, ?_⟩; have n0_ := Aside0.mk (Kd.V_elder' (by (with_reducible repeat (first | apply Kd.V_alloc | apply Kd.V_drewN | apply Kd.V_drew)); exact HO_5.out) (Kd.S_base ho0) hb); have n1_ := Aside0.mk (Kd.R_below (by (with_reducible repeat (first | apply Kd.R_alloc | apply Kd.R_drewN | apply Kd.R_drew)); exact HO_6.out) hb); have n2_ := Aside0.mk (Kd.V_elder' (by (with_reducible repeat (first | apply Kd.V_alloc | apply Kd.V_drewN | apply Kd.V_drew)); exact HO_24.out) (Kd.S_base ho0) hb); have n3_ := Aside0.mk (Kd.V_elder' (by (with_reducible repeat (first | apply Kd.V_alloc | apply Kd.V_drewN | apply Kd.V_drew)); exact HO342.out) (Kd.S_base ho0) hb); have n4_ := Aside0.mk (Kd.V_elder' (by (with_reducible repeat (first | apply Kd.V_alloc | apply Kd.V_drewN | apply Kd.V_drew)); exact HO350.out) (Kd.S_base ho0) hb); have n5_ := Aside0.mk (Kd.R_below (by (with_reducible repeat (first | apply Kd.R_alloc | apply Kd.R_drewN | apply Kd.R_drew)); exact HO353.out) hb); have n6_ := Aside0.mk (Kd.R_below (by (with_reducible repeat (first | apply Kd.R_alloc | apply Kd.R_drewN | apply Kd.R_drew)); exact HO359.out) hb); have n7_ := Aside0.mk (Kd.S_lower ho0 (below_size (by repeat (first | (with_reducible first | exact HB.out | apply below_alloc | apply pw_below_drewN | apply below_drew1 | refine below_set ?_ GE327.out) | exact HB.out)))); have n8_ := Aside0.mk (blk_below (g := gb327) (o := .cells #[.int .i64 a0_0, .int .i64 a0_1, .int .i64 0, .int .i64 a0_3, .int .i64 0, .bool a0_5, .int .i64 0] 23 (0, 0)) (by (with_reducible repeat (first | refine blk_drewN ?_ _ | refine blk_drew ?_ | refine blk_alloc ?_ _)); exact BK327.out) hb); have n9_ := Aside0.mk (below_step (by repeat (first | (with_reducible first | exact HB.out | apply below_alloc | apply pw_below_drewN | apply below_drew1 | refine below_set ?_ GE327.out) | exact HB.out)) hb); clear HO_5; clear HO_6; clear HO_24; clear HO342; clear HO350; clear HO353; clear HO359; clear BK327; clear HB; have HO_5 := n0_; have HO_6 := n1_; have HO_24 := n2_; have HO342 := n3_; have HO350 := n4_; have HO353 := n5_; have HO359 := n6_; have HO364 := n7_; have BK327 := n8_; have HB := n9_; clear n0_ n1_ n2_ n3_ n4_ n5_ n6_ n7_ n8_ n9_; (try clear hb); (try clear hb2); (try clear hk); (try clear hi); (try clear ho0); have hcv65 := own_string (P := Tryd.prog) Tryd.underlying46 Tryd.underlying5 Tryd.underlying9 (Kd.own_of_R HO359.out)) | ((with_reducible refine gate_callee (f := 9) rfl ?_); refine goesL_ (some 75) rfl rfl Tryd.func9 (by kernel_rfl) rfl #[.string (strOfNums y360)] rfl (by (try simp only [List.map_toArray, List.map_cons, List.map_nil]); first | done | rfl | (simp only [List.length_drop, List.length_take]; rfl)) ?_; (with_reducible refine (cutter_All.calls k1 (strOfNums y360) t365 t366 _ A37.out).mono ?_); rintro e w66 ⟨v367, rfl, ho0, hb⟩; refine ⟨_, rfl, ?_⟩; have n0_ := Aside0.mk (Kd.V_elder' (by (with_reducible repeat (first | apply Kd.V_alloc | apply Kd.V_drewN | apply Kd.V_drew)); exact HO_5.out) (Kd.S_base ho0) hb); have n1_ := Aside0.mk (Kd.R_below (by (with_reducible repeat (first | apply Kd.R_alloc | apply Kd.R_drewN | apply Kd.R_drew)); exact HO_6.out) hb); have n2_ := Aside0.mk (Kd.V_elder' (by (with_reducible repeat (first | apply Kd.V_alloc | apply Kd.V_drewN | apply Kd.V_drew)); exact HO_24.out) (Kd.S_base ho0) hb); have n3_ := Aside0.mk (Kd.V_elder' (by (with_reducible repeat (first | apply Kd.V_alloc | apply Kd.V_drewN | apply Kd.V_drew)); exact HO342.out) (Kd.S_base ho0) hb); have n4_ := Aside0.mk (Kd.V_elder' (by (with_reducible repeat (first | apply Kd.V_alloc | apply Kd.V_drewN | apply Kd.V_drew)); exact HO350.out) (Kd.S_base ho0) hb); have n5_ := Aside0.mk (Kd.R_below (by (with_reducible repeat (first | apply Kd.R_alloc | apply Kd.R_drewN | apply Kd.R_drew)); exact HO353.out) hb); have n6_ := Aside0.mk (Kd.R_below (by (with_reducible repeat (first | apply Kd.R_alloc | apply Kd.R_drewN | apply Kd.R_drew)); exact HO359.out) hb); have n7_ := Aside0.mk (Kd.S_elder' (by (with_reducible repeat (first | apply Kd.S_alloc | apply Kd.S_drewN | apply Kd.S_drew)); exact HO364.out) (Kd.S_base ho0) hb); have n8_ := Aside0.mk (Kd.S_lower (Kd.S_new' ho0 (Kd.S_lt (by (with_reducible repeat (first | apply Kd.S_alloc | apply Kd.S_drewN | apply Kd.S_drew)); exact HO364.out))) (below_size (by repeat (first | (with_reducible first | exact HB.out | apply below_alloc | apply pw_below_drewN | apply below_drew1 | refine below_set ?_ GE327.out) | exact HB.out)))); have n9_ := Aside0.mk (blk_below (g := gb327) (o := .cells #[.int .i64 a0_0, .int .i64 a0_1, .int .i64 0, .int .i64 a0_3, .int .i64 0, .bool a0_5, .int .i64 0] 23 (0, 0)) (by (with_reducible repeat (first | refine blk_drewN ?_ _ | refine blk_drew ?_ | refine blk_alloc ?_ _)); exact BK327.out) hb); have n10_ := Aside0.mk (below_step (by repeat (first | (with_reducible first | exact HB.out | apply below_alloc | apply pw_below_drewN | apply below_drew1 | refine below_set ?_ GE327.out) | exact HB.out)) hb); clear HO_5; clear HO_6; clear HO_24; clear HO342; clear HO350; clear HO353; clear HO359; clear HO364; clear BK327; clear HB; have HO_5 := n0_; have HO_6 := n1_; have HO_24 := n2_; have HO342 := n3_; have HO350 := n4_; have HO353 := n5_; have HO359 := n6_; have HO364 := n7_; have HO368 := n8_; have BK327 := n9_; have HB := n10_; clear n0_ n1_ n2_ n3_ n4_ n5_ n6_ n7_ n8_ n9_ n10_; (try clear hb); (try clear hb2); (try clear hk); (try clear hi); (try clear ho0)))
                                   go_ret
                                   exact ⟨by first | rfl | (simp [errW_none, errW_some] <;> rfl) | (simp only [← hji22, ← hji28]; first | rfl | (simp [errW_none, errW_some] <;> rfl)) | (simp [*, errW_none, errW_some] <;> rfl), by repeat (first | (with_reducible first | exact HB.out | apply below_alloc | apply pw_below_drewN | apply below_drew1 | refine below_set ?_ GE327.out) | exact HB.out)⟩
                               · rw [if_neg c34] at H
                                 exact absurd H (by simp)
                             · rw [if_neg c33] at H
                               exact absurd H (by simp)
                           · rw [if_neg c32] at H
                             exact absurd H (by simp)
                         · rw [if_neg c31] at H
                           exact absurd H (by simp)
                       · rw [if_neg c30] at H
                         exact absurd H (by simp)
                     · rw [if_neg c29] at H
                       exact absurd H (by simp)
                   · rw [if_neg c27] at H
                     exact absurd H (by simp)
                 · rw [if_neg c26] at H
                   exact absurd H (by simp)
               · rw [if_neg c25] at H
                 exact absurd H (by simp)
             · rw [if_neg c24] at H
               exact absurd H (by simp)
           · rw [if_neg c23] at H
             exact absurd H (by simp)
   · rw [if_neg c6] at H
     exact absurd H (by simp)
 · replace c4 := Bool.eq_false_iff.mpr c4
   subst c4
   have H1 : (some false) = some r := by rw [if_neg (show ¬ (false = true) by decide)] at H; exact H
   clear H
   have H := H1
   clear H1
   obtain rfl := Option.some.inj H
   go_enter Tryd.func6, Tryd.ntmps6
   go_wp2_with (first | ((with_reducible refine gate_dst (N := 2) rfl ?_); refine box_event ?hg (N := 2) ?hd (cs := #[.int .i64 a0_0, .int .i64 a0_1, .int .i64 a0_2, .int .i64 a0_3, .int .i64 a0_4, .bool a0_5, .int .i64 a0_6]) (t := 23) ?hr ?_; (case hd => rfl); (case hg => rfl); (case hr => first | (go_simp; done) | (go_simp; rfl)); intro gb327 hg w67 hbox hb; have n0_ := Aside0.mk (below_step (by repeat (first | (with_reducible first | exact HB.out | apply below_alloc | apply pw_below_drewN | apply below_drew1) | exact HB.out)) hb); have n1_ := Aside0.mk (hbox); have n2_ := Aside0.mk ((by rw [hg]; exact (below_size (by repeat (first | (with_reducible first | exact HB.out | apply below_alloc | apply pw_below_drewN | apply below_drew1) | exact HB.out))) : w.heap.size ≤ gb327)); have n3_ := Aside0.mk ((by rw [hg]; exact (below_size (by repeat (first | (with_reducible first | exact HB.out | apply below_alloc | apply pw_below_drewN | apply below_drew1) | exact HB.out))) : w.heap.size ≤ gb327)); clear HB; have HB := n0_; have BK327 := n1_; have GW327 := n2_; have GE327 := n3_; clear n0_ n1_ n2_ n3_; clear hb hbox hg) | ((with_reducible refine gate_callee (f := 8) rfl ?_); refine goesL_ (some 16) rfl rfl Tryd.func8 (by kernel_rfl) rfl #[] rfl (by (try simp only [List.map_toArray, List.map_cons, List.map_nil]); first | done | rfl | (simp only [List.length_drop, List.length_take]; rfl)) ?_; (with_reducible refine (crossroadlaw04_fit.calls k  false _ A3.out).mono ?_); rintro e w68 ⟨rfl, hb⟩; refine ⟨_, rfl, ?_⟩; have n0_ := Aside0.mk (blk_below (g := gb327) (o := .cells #[.int .i64 a0_0, .int .i64 a0_1, .int .i64 a0_2, .int .i64 a0_3, .int .i64 a0_4, .bool a0_5, .int .i64 a0_6] 23 (0, 0)) (by (with_reducible repeat (first | refine blk_drewN ?_ _ | refine blk_drew ?_ | refine blk_alloc ?_ _)); exact BK327.out) hb); have n1_ := Aside0.mk (below_step (by repeat (first | (with_reducible first | exact HB.out | apply below_alloc | apply pw_below_drewN | apply below_drew1 | refine below_set ?_ GE327.out) | exact HB.out)) hb); clear BK327; clear HB; have BK327 := n0_; have HB := n1_; clear n0_ n1_; (try clear hb); (try clear hb2); (try clear hk); (try clear hi)))
   go_ret
   exact ⟨by first | rfl | (simp [errW_none, errW_some] <;> rfl) | (simp [*, errW_none, errW_some] <;> rfl), by repeat (first | (with_reducible first | exact HB.out | apply below_alloc | apply pw_below_drewN | apply below_drew1 | refine below_set ?_ GE327.out) | exact HB.out)⟩
end Go.Proofs.YtldaingkcnmaoaaDoor.X

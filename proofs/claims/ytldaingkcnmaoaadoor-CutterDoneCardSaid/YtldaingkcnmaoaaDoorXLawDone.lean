-- Made smaller by wip/squeeze.py out of this claim's texts. Not trusted: Lean checks it.
import Derived.Test.YtldaingkcnmaoaaDoorXDrainM
import Derived.Test.YtldaingkcnmaoaaDoorXCutX
set_option linter.unusedVariables false
set_option linter.unusedSimpArgs false
namespace Go.Proofs.YtldaingkcnmaoaaDoor.Pure
open Go.RowKit Go.Proofs.YtldaingkcnmaoaaDoor.X Go.Proofs.YtldaingkcnmaoaaDoorW.PrintWords Go.Proofs.YtldaingkcnmaoaaDoorW.PrintLast Go.Proofs.YtldaingkcnmaoaaDoorW.PrintMore Go.Proofs.YtldaingkcnmaoaaDoor.M
attribute [local go_sem] max2_int min2_int max_two min_two max_three min_three max_four min_four
theorem cutAt_req5 {w : World} {n g k : Nat} {vs vl vf vb c0 c1 c2 c3 c4 : Value} {c : CutS} (h : CutAt w n g vs vl vf vb c) (hb : w.heap[k]? = some (.cells #[c0, c1, c2, c3, c4] 31 (0, 0))) (a0 a1 a2 a3 a4 : Value) : CutAt (((((w.setCell ⟨k, 0, none⟩ a0).setCell ⟨k, 1, none⟩ a1).setCell ⟨k, 2, none⟩ a2).setCell ⟨k, 3, none⟩ a3).setCell ⟨k, 4, none⟩ a4) n g vs vl vf vb c := by
  have b1 := blk_set hb 0 a0
  have b2 := blk_set b1 1 a1
  have b3 := blk_set b2 2 a2
  have b4 := blk_set b3 3 a3
  exact ((((h.req hb 0 a0).req b1 1 a1).req b2 2 a2).req b3 3 a3).req b4 4 a4
def DoneS (w0 : World) (n g gr : Nat) (q : S31) (Aq : Option Addr) (cq : Nat) (c : CutS) (w' : World) : Prop := ∃ vs vl vf vb, CutAt w' n g vs vl vf vb c ∧ w'.heap[gr]? = some (.cells #[.string q.f0, .string q.f1, .slice Aq q.f2.length cq, .string q.f3, .bool q.f4] 31 (0, 0)) ∧ w0.heap.size ≤ gr ∧ Below w0.heap.size w0 w'
theorem feed_done (c : CutS) (more : ByteArray) (hw : c.wait = eB) (hd : c.done = true) (hm : more.size ≤ 1000) : cutter_Cutter_Feed.f c more = some c := by
  have h0 : c.wait.size = 0 := by rw [hw]; rfl
  rw [cutter_Cutter_Feed.f, if_pos (by omega), feedC, if_pos hd]
theorem next_done (c : CutS) (hd : c.done = true) : nextF 1 c = some (z31, false, c) := by rw [nextF, if_pos hd]
set_option maxHeartbeats 16000000 in
set_option maxRecDepth 100000 in
theorem done_walk (A : Option Addr) (cp : Nat) (l : List S23) (s : S23) (more : ByteArray) (w : World) (hG : GlobOK w) (hC : Kd.C k23 w A l.length l) :
    Calls Tryd.prog 4 #[.slice A l.length cp, .agg #[.int .i64 s.f0, .int .i64 s.f1, .int .i64 s.f2, .int .i64 s.f3, .int .i64 s.f4, .bool s.f5, .int .i64 s.f6], .string more] w fun e w' => e = .returned (.bool true) ∧ Below w.heap.size w w' := by
  have hu23 := Tryd.underlying23
  have hu31 := Tryd.underlying31
  have HG := Aside0.mk hG
  have HC := Aside0.mk hC
  obtain ⟨KF, hKF⟩ := ev_get cut_fit_f
  have HFit := Aside0.mk hKF
  clear hG hC hKF
  by_cases hl : l.length ≤ 8
  rotate_left
  · have t1 : decide (8 < (l.length : Int)) = true := decide_eq_true (by omega)
    clear hl
    go_enter Tryd.func4, Tryd.ntmps4
    go_wp2_with (first | ((with_reducible refine gate_dst (N := 4) rfl ?_); refine box_event ?hg (N := 4) ?hd (cs := #[.int .i64 s.f0, .int .i64 s.f1, .int .i64 s.f2, .int .i64 s.f3, .int .i64 s.f4, .bool s.f5, .int .i64 s.f6]) (t := 23) ?hr ?_; (case hd => rfl); (case hg => rfl); (case hr => first | (go_simp; done) | (go_simp; rfl)); intro g0 hg w1 hbox hb; have HS0 := Aside0.mk hbox; have HB1 := Aside0.mk hb; have HG0 := Aside0.mk (show w.heap.size ≤ g0 by rw [hg]; exact Nat.le_refl _); clear hbox hb hg) | (go_at_call 8; refine (crossroadlaw04_fit.calls KF true _ HFit.out).mono ?_; rintro e w2 ⟨rfl, hb2⟩; have HB := Aside0.mk (below_step HB1.out hb2); have HS := Aside0.mk (blk_grown HS0.out (grown_of_below hb2 none) (by simp)); clear hb2 HS0 HB1))
    go_ret
    exact ⟨rfl, HB.out⟩
  have t1 : decide (8 < (l.length : Int)) = false := decide_eq_false (by omega)
  by_cases hm : more.size ≤ 1000
  rotate_left
  · have t2 : decide (1000 < (more.size : Int)) = true := decide_eq_true (by omega)
    clear hl hm
    go_enter Tryd.func4, Tryd.ntmps4
    go_wp2_with (first | ((with_reducible refine gate_dst (N := 4) rfl ?_); refine box_event ?hg (N := 4) ?hd (cs := #[.int .i64 s.f0, .int .i64 s.f1, .int .i64 s.f2, .int .i64 s.f3, .int .i64 s.f4, .bool s.f5, .int .i64 s.f6]) (t := 23) ?hr ?_; (case hd => rfl); (case hg => rfl); (case hr => first | (go_simp; done) | (go_simp; rfl)); intro g0 hg w1 hbox hb; have HS0 := Aside0.mk hbox; have HB1 := Aside0.mk hb; have HG0 := Aside0.mk (show w.heap.size ≤ g0 by rw [hg]; exact Nat.le_refl _); clear hbox hb hg) | (go_at_call 8; refine (crossroadlaw04_fit.calls KF true _ HFit.out).mono ?_; rintro e w2 ⟨rfl, hb2⟩; have HB := Aside0.mk (below_step HB1.out hb2); have HS := Aside0.mk (blk_grown HS0.out (grown_of_below hb2 none) (by simp)); clear hb2 HS0 HB1))
    go_ret
    exact ⟨rfl, HB.out⟩
  have t2 : decide (1000 < (more.size : Int)) = false := decide_eq_false (by omega)
  have HL := Aside0.mk hl
  have HM := Aside0.mk hm
  clear hl hm
  go_enter Tryd.func4, Tryd.ntmps4
  go_wp2_with (first | ((with_reducible refine gate_dst (N := 4) rfl ?_); refine box_event ?hg (N := 4) ?hd (cs := #[.int .i64 s.f0, .int .i64 s.f1, .int .i64 s.f2, .int .i64 s.f3, .int .i64 s.f4, .bool s.f5, .int .i64 s.f6]) (t := 23) ?hr ?_; (case hd => rfl); (case hg => rfl); (case hr => first | (go_simp; done) | (go_simp; rfl)); intro g0 hg w1 hbox hb; have HS0 := Aside0.mk hbox; have HB1 := Aside0.mk hb; have HG0 := Aside0.mk (show w.heap.size ≤ g0 by rw [hg]; exact Nat.le_refl _); clear hbox hb hg) | (go_at_call 8; refine (crossroadlaw04_fit.calls KF true _ HFit.out).mono ?_; rintro e w2 ⟨rfl, hb2⟩; have HB := Aside0.mk (below_step HB1.out hb2); have HS := Aside0.mk (blk_grown HS0.out (grown_of_below hb2 none) (by simp)); clear hb2 HS0 HB1))
  go_loopg [7, 32] l.length (fun kq v7 v32 w' => ∃ (x : Int) (T : ByteArray), v7 = .string T ∧ v32 = .int .i64 x ∧ Aside0 (DoneAt l x kq T) ∧ Aside0 (w'.heap[g0]? = some (.cells #[.int .i64 s.f0, .int .i64 s.f1, .int .i64 s.f2, .int .i64 s.f3, .int .i64 s.f4, .bool s.f5, .int .i64 s.f6] 23 (0, 0))) ∧ Aside0 (Below w.heap.size w w'))
  case atStart => exact ⟨0, _, rfl, rfl, ⟨0, rfl, Nat.zero_add _, rfl⟩, ⟨HS.out⟩, ⟨HB.out⟩⟩
  case round =>
    clear HB HS t1 t2 HFit
    obtain ⟨x, T, rfl, rfl, HA, HS, HB⟩ := hrel
    cases gk with
    | succ k1 =>
      have hTs := HA.out.size HL.out
      obtain ⟨p0, p1⟩ := HA.out.lt
      obtain ⟨ad, ea, hx0, hx1, hx2, hx3, hx4, hx5, hx6⟩ := at_T23 HC.out x p0 p1
      cases ea
      replace hx0 := (HB.out.cell (World.block_lt_of_cell? w _ hx0)).trans hx0
      replace hx1 := (HB.out.cell (World.block_lt_of_cell? w _ hx1)).trans hx1
      replace hx2 := (HB.out.cell (World.block_lt_of_cell? w _ hx2)).trans hx2
      replace hx3 := (HB.out.cell (World.block_lt_of_cell? w _ hx3)).trans hx3
      replace hx4 := (HB.out.cell (World.block_lt_of_cell? w _ hx4)).trans hx4
      replace hx5 := (HB.out.cell (World.block_lt_of_cell? w _ hx5)).trans hx5
      replace hx6 := (HB.out.cell (World.block_lt_of_cell? w _ hx6)).trans hx6
      obtain ⟨z, hz⟩ : ∃ z, z = rd_T23 l x := ⟨_, rfl⟩
      rw [← hz] at hx0 hx1 hx2 hx3 hx4 hx5 hx6
      obtain ⟨X, hX⟩ : ∃ X, X = toBA (sR (sZ z)).text := ⟨_, rfl⟩
      have hXs : X.size ≤ 5000 := by rw [hX, toBA_size]; exact sR_len (sZ z)
      obtain ⟨K1, hK1⟩ := ev_get (sR_text (sZ z))
      rw [← hX] at hK1
      have HT := Aside0.mk hK1
      have HXe := Aside0.mk (show X = toBA (sR (sZ (rd_T23 l x))).text by rw [hX, hz])
      have q0 : (9223372036854775807 < T.size + X.size) = False := eq_false (by omega)
      have c3 : decide (x < (l.length : Int)) = true := decide_eq_true p1
      replace p0 := eq_true p0
      replace p1 := eq_true p1
      clear hXs hX hz hK1 hTs
      go_upto_region 9 with ((with_reducible refine gate_dst (N := 9) rfl ?_); refine box_event ?hg (N := 9) ?hd (cs := #[.int .i64 0, .int .i64 0, .int .i64 0, .int .i64 0, .int .i64 0, .bool false, .int .i64 0]) (t := 23) ?hr ?_; (case hd => rfl); (case hg => rfl); (case hr => first | (go_simp; done) | (go_simp; rfl)); intro gb hg w1 hbox hb; have HX := Aside0.mk hbox; have HGE := Aside0.mk (show wr.heap.size ≤ gb by rw [hg]; exact Nat.le_refl _); have HB1 := Aside0.mk hb; have y0 : w1.cell? ⟨gb, 0, none⟩ = some (.int .i64 0) := (blk_cell hbox 0).trans rfl; have y1 : w1.cell? ⟨gb, 1, none⟩ = some (.int .i64 0) := (blk_cell hbox 1).trans rfl; have y2 : w1.cell? ⟨gb, 2, none⟩ = some (.int .i64 0) := (blk_cell hbox 2).trans rfl; have y3 : w1.cell? ⟨gb, 3, none⟩ = some (.int .i64 0) := (blk_cell hbox 3).trans rfl; have y4 : w1.cell? ⟨gb, 4, none⟩ = some (.int .i64 0) := (blk_cell hbox 4).trans rfl; have y5 : w1.cell? ⟨gb, 5, none⟩ = some (.bool false) := (blk_cell hbox 5).trans rfl; have y6 : w1.cell? ⟨gb, 6, none⟩ = some (.int .i64 0) := (blk_cell hbox 6).trans rfl; have fy0 := blk_frozen hbox 0; have fy1 := blk_frozen hbox 1; have fy2 := blk_frozen hbox 2; have fy3 := blk_frozen hbox 3; have fy4 := blk_frozen hbox 4; have fy5 := blk_frozen hbox 5; have fy6 := blk_frozen hbox 6; clear hbox hb hg)
      have hb7 := below_set7 HB1.out HGE.out (.int .i64 z.f0) (.int .i64 z.f1) (.int .i64 z.f2) (.int .i64 z.f3) (.int .i64 z.f4) (.bool z.f5) (.int .i64 z.f6)
      have k7 := blk_set7 HX.out (.int .i64 z.f0) (.int .i64 z.f1) (.int .i64 z.f2) (.int .i64 z.f3) (.int .i64 z.f4) (.bool z.f5) (.int .i64 z.f6)
      obtain ⟨W, hW⟩ : ∃ W, W = (((((((w1.setCell ⟨gb, 0, none⟩ (.int .i64 z.f0)).setCell ⟨gb, 1, none⟩ (.int .i64 z.f1)).setCell ⟨gb, 2, none⟩ (.int .i64 z.f2)).setCell ⟨gb, 3, none⟩ (.int .i64 z.f3)).setCell ⟨gb, 4, none⟩ (.int .i64 z.f4)).setCell ⟨gb, 5, none⟩ (.bool z.f5)).setCell ⟨gb, 6, none⟩ (.int .i64 z.f6)) := ⟨_, rfl⟩
      rw [← hW] at hb7 k7 ⊢
      clear hW HX HB1 hx0 hx1 hx2 hx3 hx4 hx5 hx6 y0 fy0 y1 fy1 y2 fy2 y3 fy3 y4 fy4 y5 fy5 y6 fy6
      have HK7 := Aside0.mk k7
      have HB7 := Aside0.mk hb7
      have y5 : W.cell? ⟨gb, 5, none⟩ = some (.bool z.f5) := (blk_cell k7 5).trans rfl
      have y6 : W.cell? ⟨gb, 6, none⟩ = some (.int .i64 z.f6) := (blk_cell k7 6).trans rfl
      have fy5 := blk_frozen k7 5
      have fy6 := blk_frozen k7 6
      clear k7 hb7
      go_upto_region 10 with (fail)
      have k9 : ((W.setCell ⟨gb, 6, none⟩ (.int .i64 0)).setCell ⟨gb, 5, none⟩ (.bool false)).heap[gb]? = some (.cells #[.int .i64 z.f0, .int .i64 z.f1, .int .i64 z.f2, .int .i64 z.f3, .int .i64 z.f4, .bool false, .int .i64 0] 23 (0, 0)) := by simpa using blk_set (blk_set HK7.out 6 (.int .i64 0)) 5 (.bool false)
      have hb9 := (HB7.out.setCell (p := ⟨gb, 6, none⟩) HGE.out (.int .i64 0)).setCell (p := ⟨gb, 5, none⟩) HGE.out (.bool false)
      obtain ⟨V, hV⟩ : ∃ V, V = ((W.setCell ⟨gb, 6, none⟩ (.int .i64 0)).setCell ⟨gb, 5, none⟩ (.bool false)) := ⟨_, rfl⟩
      rw [← hV] at hb9 k9 ⊢
      have HB8 := Aside0.mk hb9
      have HB9 := Aside0.mk (below_step HB.out hb9)
      clear hV HK7 HB7 HGE y5 y6 fy5 fy6
      have y0 : V.cell? ⟨gb, 0, none⟩ = some (.int .i64 z.f0) := (blk_cell k9 0).trans rfl
      have y1 : V.cell? ⟨gb, 1, none⟩ = some (.int .i64 z.f1) := (blk_cell k9 1).trans rfl
      have y2 : V.cell? ⟨gb, 2, none⟩ = some (.int .i64 z.f2) := (blk_cell k9 2).trans rfl
      have y3 : V.cell? ⟨gb, 3, none⟩ = some (.int .i64 z.f3) := (blk_cell k9 3).trans rfl
      have y4 : V.cell? ⟨gb, 4, none⟩ = some (.int .i64 z.f4) := (blk_cell k9 4).trans rfl
      have y5 : V.cell? ⟨gb, 5, none⟩ = some (.bool false) := (blk_cell k9 5).trans rfl
      have y6 : V.cell? ⟨gb, 6, none⟩ = some (.int .i64 0) := (blk_cell k9 6).trans rfl
      have fy0 := blk_frozen k9 0
      have fy1 := blk_frozen k9 1
      have fy2 := blk_frozen k9 2
      have fy3 := blk_frozen k9 3
      have fy4 := blk_frozen k9 4
      have fy5 := blk_frozen k9 5
      have fy6 := blk_frozen k9 6
      clear k9 hb9
      go_wp2_with (go_at_call 10; refine (crossroadlaw04_Seed_Text.calls K1 z.f0 z.f1 z.f2 z.f3 z.f4 false 0 X _ HT.out (GlobOK.below HG.out HB9.out rfl)).mono ?_; rintro e w3 ⟨rfl, hb3⟩; have HBr := Aside0.mk (below_step HB8.out hb3); clear hb3 HB8 HB9 HT y0 fy0 y1 fy1 y2 fy2 y3 fy3 y4 fy4 y5 fy5 y6 fy6)
      go_roundg k1
      case measure => omega
      case rel => exact ⟨wrap64 (x + 1), T ++ X, by first | rfl | simp, by first | rfl | simp, ⟨by rw [HXe.out]; exact HA.out.step HL.out⟩, ⟨blk_grown HS.out (grown_of_below HBr.out none) (by simp)⟩, ⟨below_step HB.out HBr.out⟩⟩
    | zero =>
      have hx := HA.out.at_end
      have c3 : decide (x < (l.length : Int)) = false := decide_eq_false (by omega)
      have HTs := Aside0.mk (HA.out.size HL.out)
      have y6 : wr.cell? ⟨g0, 6, none⟩ = some (.int .i64 s.f6) := (blk_cell HS.out 6).trans rfl
      have y5 : wr.cell? ⟨g0, 5, none⟩ = some (.bool s.f5) := (blk_cell HS.out 5).trans rfl
      have fy5 := blk_frozen HS.out 5
      go_upto_region 13 with (fail)
      go_cut [51] (fun v51 wc => v51 = .bool (decide (wrOf s.f6 = 0)) ∧ Aside0 (wc.heap[g0]? = some (.cells #[.int .i64 s.f0, .int .i64 s.f1, .int .i64 s.f2, .int .i64 s.f3, .int .i64 s.f4, .bool s.f5, .int .i64 s.f6] 23 (0, 0))) ∧ Aside0 (Below w.heap.size w wc))
      case first =>
        obtain ⟨wv, hwv, hw16⟩ := and15_lt s.f6
        have hwr : wrOf s.f6 = wrN wv := by unfold wrOf; rw [hwv]; simp only [Int.toNat_natCast]
        have hB3 : ∃ b1 b2 : Bool, decide ((wv : Int) < 1) = b1 ∧ decide (3 < (wv : Int)) = b2 ∧ decide (wrOf s.f6 = 0) = (b1 || b2) ∧ (b1 = true ∨ b1 = false ∧ b2 = true ∨ b1 = false ∧ b2 = false) := by
          refine ⟨_, _, rfl, rfl, ?_, ?_⟩
          · rw [hwr, wrN]; by_cases hw : wv = 1 ∨ wv = 2 ∨ wv = 3
            · rw [if_pos hw, decide_eq_false (by omega), decide_eq_false (by omega), decide_eq_false (by omega)]; rfl
            · rw [if_neg hw, decide_eq_true rfl]; by_cases h1 : wv = 0
              · rw [decide_eq_true (by omega)]; rfl
              · rw [decide_eq_false (by omega), decide_eq_true (by omega)]; rfl
          · cases decide ((wv : Int) < 1) <;> cases decide (3 < (wv : Int)) <;> simp
        obtain ⟨b1, b2, u1, u2, hb3, hc⟩ := hB3
        have HB3 := Aside0.mk hb3
        rw [← hwv] at u1 u2
        clear hw16 hwr hwv hb3
        rcases hc with rfl | ⟨rfl, rfl⟩ | ⟨rfl, rfl⟩
        · go_wp2
          go_meet
          case rel => exact ⟨by rw [HB3.out]; rfl, HS, HB⟩
        · go_wp2
          go_meet
          case rel => exact ⟨by rw [HB3.out]; rfl, HS, HB⟩
        · go_wp2
          go_meet
          case rel => exact ⟨by rw [HB3.out]; rfl, HS, HB⟩
      case rest =>
        clear y6 y5 fy5 HS HB
        obtain ⟨rfl, HS, HB⟩ := hcut
        have y5 : wc.cell? ⟨g0, 5, none⟩ = some (.bool s.f5) := (blk_cell HS.out 5).trans rfl
        have fy5 := blk_frozen HS.out 5
        go_upto_if 51 with (fail)
        go_cut [52] (fun v52 wd => Aside0 (wd.heap[g0]? = some (.cells #[.int .i64 s.f0, .int .i64 s.f1, .int .i64 s.f2, .int .i64 s.f3, .int .i64 s.f4, .bool (clD s.f5 s.f6), .int .i64 s.f6] 23 (0, 0))) ∧ Aside0 (Below w.heap.size w wd))
        case first =>
          by_cases hw : wrOf s.f6 = 0
          · have HCL := Aside0.mk (show clD s.f5 s.f6 = true by rw [clD, if_pos hw])
            rw [decide_eq_true hw]
            clear hw
            go_wp2
            go_meet
            case rel => exact ⟨⟨by rw [HCL.out]; simpa using blk_set HS.out 5 (.bool true)⟩, ⟨HB.out.setCell (p := ⟨g0, 5, none⟩) HG0.out (.bool true)⟩⟩
          · have HCL := Aside0.mk (show clD s.f5 s.f6 = s.f5 by rw [clD, if_neg hw])
            rw [decide_eq_false hw]
            clear hw
            go_wp2
            go_meet
            case rel => exact ⟨⟨by rw [HCL.out]; exact HS.out⟩, HB⟩
        clear y5 fy5 hx HS HB
        obtain ⟨HS, HB⟩ := hcut
        obtain ⟨X, hX⟩ : ∃ X, X = toBA (sR (sD s)).text := ⟨_, rfl⟩
        have hXs : X.size ≤ 5000 := by rw [hX, toBA_size]; exact sR_len (sD s)
        obtain ⟨K1, hK1⟩ := ev_get (sR_text (sD s))
        rw [← hX] at hK1
        have HT := Aside0.mk hK1
        have hTs := HTs.out
        obtain ⟨R, st, c1, p, cf, hs0, e1, e2, hf1, hb1, e3, e4, hw1, hd1, hst⟩ := done_all l s more HL.out HM.out (T ++ X) (by rw [hX]; exact HA.out.whole)
        subst hst
        obtain ⟨K2, hK2⟩ := ev_get e1
        obtain ⟨K3, hK3⟩ := ev_get e2
        obtain ⟨K4, hK4⟩ := ev_get e3
        obtain ⟨K5, hK5⟩ := ev_get e4
        have HA1 := Aside0.mk hK2
        have HA2 := Aside0.mk hK3
        have HN := Aside0.mk hK4
        have HD := Aside0.mk hK5
        have HF := Aside0.mk hf1
        have HN1 := Aside0.mk (show c1.done = true ∨ c1.body = none from .inr hb1)
        have HFm := Aside0.mk (feed_done cf more hw1 hd1 HM.out)
        have HNm := Aside0.mk (next_done cf hd1)
        have HW1 := Aside0.mk hw1
        have HDN := Aside0.mk hd1
        have hm := HM.out
        have q0 : (9223372036854775807 < T.size + X.size) = False := eq_false (by omega)
        have q1 : (9223372036854775807 < T.size + X.size + more.size) = False := eq_false (by omega)
        have q2 : (9223372036854775807 < (T ++ X).size + more.size) = False := eq_false (by rw [ByteArray.size_append]; omega)
        clear hX hXs hK1 hTs hs0 e1 e2 e3 e4 hf1 hb1 hw1 hd1 hK2 hK3 hK4 hK5 hm HA
        have y0 : wc.cell? ⟨g0, 0, none⟩ = some (.int .i64 s.f0) := (blk_cell HS.out 0).trans rfl
        have y1 : wc.cell? ⟨g0, 1, none⟩ = some (.int .i64 s.f1) := (blk_cell HS.out 1).trans rfl
        have y2 : wc.cell? ⟨g0, 2, none⟩ = some (.int .i64 s.f2) := (blk_cell HS.out 2).trans rfl
        have y3 : wc.cell? ⟨g0, 3, none⟩ = some (.int .i64 s.f3) := (blk_cell HS.out 3).trans rfl
        have y4 : wc.cell? ⟨g0, 4, none⟩ = some (.int .i64 s.f4) := (blk_cell HS.out 4).trans rfl
        have y5 : wc.cell? ⟨g0, 5, none⟩ = some (.bool (clD s.f5 s.f6)) := (blk_cell HS.out 5).trans rfl
        have y6 : wc.cell? ⟨g0, 6, none⟩ = some (.int .i64 s.f6) := (blk_cell HS.out 6).trans rfl
        have fy0 := blk_frozen HS.out 0
        have fy1 := blk_frozen HS.out 1
        have fy2 := blk_frozen HS.out 2
        have fy3 := blk_frozen HS.out 3
        have fy4 := blk_frozen HS.out 4
        have fy5 := blk_frozen HS.out 5
        have fy6 := blk_frozen HS.out 6
        go_wp2_with (first | (go_at_call 10; refine (crossroadlaw04_Seed_Text.calls K1 s.f0 s.f1 s.f2 s.f3 s.f4 (clD s.f5 s.f6) s.f6 X _ HT.out (GlobOK.below HG.out HB.out rfl)).mono ?_; rintro e w3 ⟨rfl, hb3⟩; have HB3 := Aside0.mk (below_step HB.out hb3); clear hb3 HT HS HB y0 fy0 y1 fy1 y2 fy2 y3 fy3 y4 fy4 y5 fy5 y6 fy6) | (go_at_call 9; refine (cutter_All.calls K2 _ _ _ _ HA1.out).mono ?_; rintro e w4 ⟨v1, rfl, hS, hb4⟩; obtain ⟨Av1, cpv1, rfl⟩ := Kd.S_slice hS; have HB4 := Aside0.mk (below_step HB3.out hb4); clear hS hb4 HB3 HA1) | (go_at_call 9; refine (cutter_All.calls K3 _ _ _ _ HA2.out).mono ?_; rintro e w5 ⟨v2, rfl, hS, hb4⟩; obtain ⟨Av2, cpv2, rfl⟩ := Kd.S_slice hS; have HB5 := Aside0.mk (below_step HB4.out hb4); clear hS hb4 HB4 HA2) | (go_at_call 11; refine (cutter_New.calls newC _ rfl).mono ?_; rintro e w6 ⟨V, rfl, hO, hb⟩; obtain ⟨g, vs, vl, vf, vb, rfl, hA⟩ := hO; have HNB := Aside0.mk HB5.out.size; have HC6 := Aside0.mk hA; have HB6 := Aside0.mk (below_step HB5.out hb); clear hA hb HB5) | (go_at_call 12; refine (cutter_Cutter_Feed.calls _ w5.heap.size newC (T ++ X) c1 _ ⟨g, vs, vl, vf, vb, rfl, HC6.out⟩ HF.out).mono ?_; rintro e w7 ⟨rfl, hO2, hF2⟩; obtain ⟨g2, vs2, vl2, vf2, vb2, e2, hA2⟩ := hO2; cases e2; have HC7 := Aside0.mk hA2; have HB7 := Aside0.mk (HB6.out.trans (bel_less hF2.below HNB.out)); clear hA2 hF2 HC6 HB6 HF) | (go_at_call 13; refine (cut_next K4 w5.heap.size g _ _ _ _ c1 p _ HC7.out HN1.out HN.out).mono ?_; rintro e w8 ⟨vq, rfl, ⟨vs3, vl3, vf3, vb3, hA3⟩, hR3, hF3⟩; obtain ⟨Aq, cq, rfl⟩ := Kd.R_slice hR3; have HC8 := Aside0.mk hA3; have HB8 := Aside0.mk (Below.trans HB7.out (bel_less hF3.below HNB.out)); clear hA3 hR3; clear hF3 HC7 HB7 HN HN1) | ((with_reducible refine gate_dst (N := 16) rfl ?_); refine box_event ?hg (N := 16) ?hd (cs := #[.string (⟨#[]⟩ : ByteArray), .string (⟨#[]⟩ : ByteArray), .slice none 0 0, .string (⟨#[]⟩ : ByteArray), .bool false]) (t := 31) ?hr ?_; (case hd => rfl); (case hg => rfl); (case hr => first | (go_simp; done) | (go_simp; rfl)); intro gr hg w9 hbox hb; have HC9 := Aside0.mk (HC8.out.below hb); have HX9 := Aside0.mk hbox; have HGR := Aside0.mk (show w.heap.size ≤ gr by have := HB8.out.size; omega); have HB9 := Aside0.mk (below_step HB8.out hb); have z0 : w9.cell? ⟨gr, 0, none⟩ = some (.string (⟨#[]⟩ : ByteArray)) := (blk_cell hbox 0).trans rfl; have z1 : w9.cell? ⟨gr, 1, none⟩ = some (.string (⟨#[]⟩ : ByteArray)) := (blk_cell hbox 1).trans rfl; have z2 : w9.cell? ⟨gr, 2, none⟩ = some (.slice none 0 0) := (blk_cell hbox 2).trans rfl; have z3 : w9.cell? ⟨gr, 3, none⟩ = some (.string (⟨#[]⟩ : ByteArray)) := (blk_cell hbox 3).trans rfl; have z4 : w9.cell? ⟨gr, 4, none⟩ = some (.bool false) := (blk_cell hbox 4).trans rfl; have fz0 := blk_frozen hbox 0; have fz1 := blk_frozen hbox 1; have fz2 := blk_frozen hbox 2; have fz3 := blk_frozen hbox 3; have fz4 := blk_frozen hbox 4; clear hb hbox hg HC8 HB8))
        go_loopg [16, 17] K5 (fun kq v16 v17 w' => ∃ (gr : Nat) (q : S31) (Aq : Option Addr) (cq : Nat) (ok : Bool) (c : CutS), v16 = .pointer (some ⟨gr, 0, none⟩) ∧ v17 = .bool ok ∧ Aside0 (drainL kq ok c = some cf) ∧ Aside0 (DoneS w w5.heap.size g gr q Aq cq c w'))
        case atStart => exact ⟨gr, p.1, Aq, cq, p.2.1, p.2.2, rfl, rfl, HD, ⟨_, _, _, _, cutAt_req5 HC9.out HX9.out (.string p.1.f0) (.string p.1.f1) (.slice Aq p.1.f2.length cq) (.string p.1.f3) (.bool p.1.f4), blk_set5 HX9.out (.string p.1.f0) (.string p.1.f1) (.slice Aq p.1.f2.length cq) (.string p.1.f3) (.bool p.1.f4), HGR.out, below_set5 HB9.out HGR.out (.string p.1.f0) (.string p.1.f1) (.slice Aq p.1.f2.length cq) (.string p.1.f3) (.bool p.1.f4)⟩⟩
        case round =>
          clear HD HC9 HX9 HGR HB9 z0 fz0 z1 fz1 z2 fz2 z3 fz3 z4 fz4
          obtain ⟨gr, q, Aq, cq, ok, c, rfl, rfl, HA, HS⟩ := hrel
          cases gk with
          | zero => exact absurd HA.out (by simp [drainL])
          | succ k1 =>
            have hF := HA.out
            rw [drainL] at hF
            obtain ⟨vs, vl, vf, vb, hA, hX, hg, hB⟩ := HS.out
            clear HA HS
            have HC := Aside0.mk hA
            have HG1 := Aside0.mk hg
            have HB := Aside0.mk hB
            cases ok with
            | true =>
              rw [if_pos rfl] at hF
              by_cases hdn : c.done = true ∨ c.body = none
              · rw [if_pos hdn] at hF
                obtain ⟨p2, hn, hF⟩ := Option.bind_eq_some_iff.1 hF
                have HN := Aside0.mk hn
                have HL2 := Aside0.mk hF
                have HD1 := Aside0.mk hdn
                clear hn hF hdn
                have y0 : wr.cell? ⟨gr, 0, none⟩ = some (.string q.f0) := (blk_cell hX 0).trans rfl
                have y1 : wr.cell? ⟨gr, 1, none⟩ = some (.string q.f1) := (blk_cell hX 1).trans rfl
                have y2 : wr.cell? ⟨gr, 2, none⟩ = some (.slice Aq q.f2.length cq) := (blk_cell hX 2).trans rfl
                have y3 : wr.cell? ⟨gr, 3, none⟩ = some (.string q.f3) := (blk_cell hX 3).trans rfl
                have y4 : wr.cell? ⟨gr, 4, none⟩ = some (.bool q.f4) := (blk_cell hX 4).trans rfl
                have fy0 := blk_frozen hX 0
                have fy1 := blk_frozen hX 1
                have fy2 := blk_frozen hX 2
                have fy3 := blk_frozen hX 3
                have fy4 := blk_frozen hX 4
                clear hX hA hg hB
                go_wp2_with (first | ((with_reducible refine gate_dst (N := 16) rfl ?_); refine box_event ?hg (N := 16) ?hd (cs := #[.string (⟨#[]⟩ : ByteArray), .string (⟨#[]⟩ : ByteArray), .slice none 0 0, .string (⟨#[]⟩ : ByteArray), .bool false]) (t := 31) ?hr ?_; (case hd => rfl); (case hg => rfl); (case hr => first | (go_simp; done) | (go_simp; rfl)); intro gr2 hg w9 hbox hb; have HC9 := Aside0.mk (HC.out.below hb); have HX9 := Aside0.mk hbox; have HGR := Aside0.mk (show w.heap.size ≤ gr2 by have := HB.out.size; omega); have HB9 := Aside0.mk (below_step HB.out hb); have z0 : w9.cell? ⟨gr2, 0, none⟩ = some (.string (⟨#[]⟩ : ByteArray)) := (blk_cell hbox 0).trans rfl; have z1 : w9.cell? ⟨gr2, 1, none⟩ = some (.string (⟨#[]⟩ : ByteArray)) := (blk_cell hbox 1).trans rfl; have z2 : w9.cell? ⟨gr2, 2, none⟩ = some (.slice none 0 0) := (blk_cell hbox 2).trans rfl; have z3 : w9.cell? ⟨gr2, 3, none⟩ = some (.string (⟨#[]⟩ : ByteArray)) := (blk_cell hbox 3).trans rfl; have z4 : w9.cell? ⟨gr2, 4, none⟩ = some (.bool false) := (blk_cell hbox 4).trans rfl; have fz0 := blk_frozen hbox 0; have fz1 := blk_frozen hbox 1; have fz2 := blk_frozen hbox 2; have fz3 := blk_frozen hbox 3; have fz4 := blk_frozen hbox 4; clear hb hbox hg HC HB y0 fy0 y1 fy1 y2 fy2 y3 fy3 y4 fy4) | (go_at_call 13; refine (cut_next k1 w5.heap.size g _ _ _ _ c p2 _ (cutAt_req5 HC9.out HX9.out (.string q.f0) (.string q.f1) (.slice Aq q.f2.length cq) (.string q.f3) (.bool q.f4)) HD1.out HN.out).mono ?_; rintro e w10 ⟨vq, rfl, ⟨vs4, vl4, vf4, vb4, hA3⟩, hR3, hF3⟩; obtain ⟨Ar, cr, rfl⟩ := Kd.R_slice hR3; have HC10 := Aside0.mk hA3; have HB10 := Aside0.mk (Below.trans (below_set5 HB9.out HGR.out (.string q.f0) (.string q.f1) (.slice Aq q.f2.length cq) (.string q.f3) (.bool q.f4)) (bel_less hF3.below HNB.out)); clear hA3 hR3; have HX10 := Aside0.mk (hF3.other gr2 _ (blk_set5 HX9.out (.string q.f0) (.string q.f1) (.slice Aq q.f2.length cq) (.string q.f3) (.bool q.f4)) (by intro cs t z he; injection he with _ he; subst he; decide)); clear hF3 HC9 HX9 HB9 HN HD1 z0 fz0 z1 fz1 z2 fz2 z3 fz3 z4 fz4))
                go_roundg k1
                case measure => omega
                case rel => exact ⟨gr2, q, Aq, cq, p2.2.1, p2.2.2, rfl, rfl, ⟨HL2.out⟩, ⟨_, _, _, _, HC10.out, HX10.out, HGR.out, HB10.out⟩⟩
              · rw [if_neg hdn] at hF; cases hF
            | false =>
              rw [if_neg (by decide)] at hF
              obtain rfl := Option.some.inj hF
              clear hF hX hA hg hB HG1
              obtain ⟨p2, hp2⟩ : ∃ p2 : S31 × Bool × CutS, p2 = (z31, false, c) := ⟨_, rfl⟩
              have HN2 := Aside0.mk (show nextF 1 c = some p2 by rw [hp2]; exact HNm.out)
              have ho : p2.2.1 = false := by rw [hp2]
              have HO := Aside0.mk (show p2.2.2 = c by rw [hp2])
              have hdn : c.done = true := HDN.out
              have hwn : c.wait.size = 0 := by rw [HW1.out]; rfl
              have HD1 := Aside0.mk (show c.done = true ∨ c.body = none from .inl hdn)
              clear hp2
              go_wp2_with (first | (go_at_call 12; refine (cutter_Cutter_Feed.calls _ w5.heap.size c more c _ ⟨g, vs, vl, vf, vb, rfl, HC.out⟩ HFm.out).mono ?_; rintro e w7 ⟨rfl, hO2, hF2⟩; obtain ⟨g2, vs2, vl2, vf2, vb2, e2, hA2⟩ := hO2; cases e2; have HC7 := Aside0.mk hA2; have HB7 := Aside0.mk (HB.out.trans (bel_less hF2.below HNB.out)); clear hA2 hF2 HC HB HFm) | (go_at_call 13; refine (cut_next 1 w5.heap.size g _ _ _ _ c p2 _ HC7.out HD1.out HN2.out).mono ?_; rintro e w8 ⟨vq, rfl, ⟨vs3, vl3, vf3, vb3, hA3⟩, hR3, hF3⟩; obtain ⟨Ar, cr, rfl⟩ := Kd.R_slice hR3; have HC8 := Aside0.mk (show CutAt w8 w5.heap.size g vs3 vl3 vf3 vb3 c by rw [← HO.out]; exact hA3); have HB8 := Aside0.mk (Below.trans HB7.out (bel_less hF3.below HNB.out)); clear hA3 hR3; clear hF3 HC7 HB7 HN2 HD1) | ((with_reducible refine gate_dst (N := 18) rfl ?_); refine box_event ?hg (N := 18) ?hd (cs := #[.string (⟨#[]⟩ : ByteArray), .string (⟨#[]⟩ : ByteArray), .slice none 0 0, .string (⟨#[]⟩ : ByteArray), .bool false]) (t := 31) ?hr ?_; (case hd => rfl); (case hg => rfl); (case hr => first | (go_simp; done) | (go_simp; rfl)); intro gr2 hg w9 hbox hb; have HC9 := Aside0.mk (HC8.out.below hb); have HX9 := Aside0.mk hbox; have HGR := Aside0.mk (show w.heap.size ≤ gr2 by have := HB8.out.size; omega); have HB9 := Aside0.mk (below_step HB8.out hb); have z0 : w9.cell? ⟨gr2, 0, none⟩ = some (.string (⟨#[]⟩ : ByteArray)) := (blk_cell hbox 0).trans rfl; have z1 : w9.cell? ⟨gr2, 1, none⟩ = some (.string (⟨#[]⟩ : ByteArray)) := (blk_cell hbox 1).trans rfl; have z2 : w9.cell? ⟨gr2, 2, none⟩ = some (.slice none 0 0) := (blk_cell hbox 2).trans rfl; have z3 : w9.cell? ⟨gr2, 3, none⟩ = some (.string (⟨#[]⟩ : ByteArray)) := (blk_cell hbox 3).trans rfl; have z4 : w9.cell? ⟨gr2, 4, none⟩ = some (.bool false) := (blk_cell hbox 4).trans rfl; have fz0 := blk_frozen hbox 0; have fz1 := blk_frozen hbox 1; have fz2 := blk_frozen hbox 2; have fz3 := blk_frozen hbox 3; have fz4 := blk_frozen hbox 4; clear hb hbox hg HC8 HB8) | (go_at_call 14; have hc := cutAt_req5 HC9.out HX9.out (.string p2.1.f0) (.string p2.1.f1) (.slice Ar p2.1.f2.length cr) (.string p2.1.f3) (.bool p2.1.f4); have hb := below_set5 HB9.out HGR.out (.string p2.1.f0) (.string p2.1.f1) (.slice Ar p2.1.f2.length cr) (.string p2.1.f3) (.bool p2.1.f4); refine (cut_done _ w5.heap.size c _ ⟨g, _, _, _, _, rfl, hc⟩).mono ?_; rintro e w10 ⟨rfl, hd⟩; have HC10 := Aside0.mk (hc.below (drawn0_below hd)); have HB10 := Aside0.mk (below_step hb (drawn0_below hd)); clear hc hb hd HC9 HX9 HB9 z0 fz0 z1 fz1 z2 fz2 z3 fz3 z4 fz4) | (go_at_call 15; refine (cutter_Cutter_Status.calls _ w5.heap.size c c.status _ ⟨g, _, _, _, _, rfl, HC10.out⟩ rfl).mono ?_; rintro e w11 ⟨rfl, hd⟩; have HC11 := Aside0.mk (HC10.out.below (drawn0_below hd)); have HB11 := Aside0.mk (below_step HB10.out (drawn0_below hd)); clear hd HC10 HB10) | (go_at_call 16; refine (cut_left _ w5.heap.size c _ ⟨g, _, _, _, _, rfl, HC11.out⟩).mono ?_; rintro e w12 ⟨rfl, hd⟩; have HC12 := Aside0.mk (HC11.out.below (drawn0_below hd)); have HB12 := Aside0.mk (below_step HB11.out (drawn0_below hd)); clear hd HC11 HB11))
              go_ret
              exact ⟨rfl, HB12.out⟩
end Go.Proofs.YtldaingkcnmaoaaDoor.Pure

-- Made smaller by wip/squeeze.py out of this claim's texts. Not trusted: Lean checks it.
import Derived.Test.YtldaingkcnmaoaaDoorXSeedsP
set_option linter.unusedVariables false
set_option linter.unusedSimpArgs false
namespace Go.Proofs.YtldaingkcnmaoaaDoor.Pure
open Go.RowKit Go.Proofs.YtldaingkcnmaoaaDoor.X Go.Proofs.YtldaingkcnmaoaaDoorW.PrintWords Go.Proofs.YtldaingkcnmaoaaDoorW.PrintLast Go.Proofs.YtldaingkcnmaoaaDoorW.PrintMore Go.Proofs.YtldaingkcnmaoaaDoor.M
attribute [local go_sem] max2_int min2_int max_two min_two max_three min_three max_four min_four
theorem st_ix (n : Nat) (h : n = 1 ∨ n = 2 ∨ n = 3) (w : World) : (Instr.index 41 (.agg #[.int .i64 0, .int .i64 400, .int .i64 413, .int .i64 501]) (.int .i64 (n : Int))).run Tryd.prog w = .ok (.int .i64 (wrongS n)) w := by
  rcases h with rfl | rfl | rfl <;> kernel_rfl
set_option maxHeartbeats 16000000 in
set_option maxRecDepth 100000 in
theorem seeds_walk (A : Option Addr) (cp : Nat) (l : List S23) (w : World) (hG : GlobOK w) (hC : Kd.C k23 w A l.length l) :
    Calls Tryd.prog 5 #[.slice A l.length cp] w fun e w' => e = .returned (.bool true) ∧ Below w.heap.size w w' := by
  have hu23 := Tryd.underlying23
  have hu31 := Tryd.underlying31
  have HG := Aside0.mk hG
  have HC := Aside0.mk hC
  obtain ⟨KF, hKF⟩ := ev_get cut_fit_f
  have HFit := Aside0.mk hKF
  clear hG hC hKF
  by_cases hl : l.length ≤ 20
  rotate_left
  · have t1 : decide (20 < (l.length : Int)) = true := decide_eq_true (by omega)
    clear hl
    go_enter Tryd.func5, Tryd.ntmps5
    go_wp2_with (go_at_call 8; refine (crossroadlaw04_fit.calls KF true _ HFit.out).mono ?_; rintro e w2 ⟨rfl, hb2⟩; have HB := Aside0.mk hb2; clear hb2)
    go_ret
    exact ⟨rfl, HB.out⟩
  have HL := Aside0.mk hl
  have t1 : decide (20 < (l.length : Int)) = false := decide_eq_false (by omega)
  clear hl
  go_enter Tryd.func5, Tryd.ntmps5
  go_wp2_with (go_at_call 8; refine (crossroadlaw04_fit.calls KF true _ HFit.out).mono ?_; rintro e w2 ⟨rfl, hb2⟩; have HB := Aside0.mk hb2; clear hb2)
  go_loopg [3, 4, 5, 6, 22] l.length (fun kq v3 v4 v5 v6 v22 w' => ∃ (x : Int) (T : ByteArray) (nw st : Int) (ov : Bool), v3 = .string T ∧ v4 = .int .i64 nw ∧ v5 = .int .i64 st ∧ v6 = .bool ov ∧ v22 = .int .i64 x ∧ Aside0 (SeedsAt l x kq T nw st ov) ∧ Aside0 (Below w.heap.size w w'))
  case atStart => exact ⟨0, _, 0, 0, false, rfl, rfl, rfl, rfl, rfl, ⟨SeedsAt.start l⟩, ⟨HB.out⟩⟩
  case round =>
    clear HB t1 HFit
    obtain ⟨x, T, nw, st, ov, rfl, rfl, rfl, rfl, rfl, HA, HB⟩ := hrel
    cases gk with
    | succ k1 =>
      obtain ⟨h0, h20, hTs, hn0, hn20⟩ := HA.out.size HL.out
      obtain ⟨p0, p1⟩ := HA.out.lt
      obtain ⟨ad, ea, hx0, hx1, hx2, hx3, hx4, hx5, hx6⟩ := at_T23 HC.out x p0 p1
      cases ea
      replace hx0 := (HB.out.cell (World.block_lt_of_cell? w _ hx0)).trans hx0
      replace hx1 := (HB.out.cell (World.block_lt_of_cell? w _ hx1)).trans hx1
      replace hx2 := (HB.out.cell (World.block_lt_of_cell? w _ hx2)).trans hx2
      replace hx3 := (HB.out.cell (World.block_lt_of_cell? w _ hx3)).trans hx3
      replace hx4 := (HB.out.cell (World.block_lt_of_cell? w _ hx4)).trans hx4
      replace hx5 := (HB.out.cell (World.block_lt_of_cell? w _ hx5)).trans hx5
      replace hx6 := (HB.out.cell (World.block_lt_of_cell? w _ hx6)).trans hx6
      obtain ⟨s, hs⟩ : ∃ s, s = rd_T23 l x := ⟨_, rfl⟩
      rw [← hs] at hx0 hx1 hx2 hx3 hx4 hx5 hx6
      obtain ⟨X, hX⟩ : ∃ X, X = toBA (sR s).text := ⟨_, rfl⟩
      have hXs : X.size ≤ 5000 := by rw [hX, toBA_size]; exact sR_len s
      obtain ⟨K1, hK1⟩ := ev_get (sR_text s)
      rw [← hX] at hK1
      have HT := Aside0.mk hK1
      have HXe := Aside0.mk (show X = toBA (sR (rd_T23 l x)).text by rw [hX, hs])
      have HSe := Aside0.mk hs
      have q0 : (9223372036854775807 < T.size + X.size) = False := eq_false (by omega)
      have c3 : decide (x < (l.length : Int)) = true := decide_eq_true p1
      replace p0 := eq_true p0
      replace p1 := eq_true p1
      clear hXs hX hs hK1 h0 h20 hTs hn0 hn20
      go_upto_if 30 with (first | ((with_reducible refine gate_dst (N := 8) rfl ?_); refine box_event ?hg (N := 8) ?hd (cs := #[.int .i64 0, .int .i64 0, .int .i64 0, .int .i64 0, .int .i64 0, .bool false, .int .i64 0]) (t := 23) ?hr ?_; (case hd => rfl); (case hg => rfl); (case hr => first | (go_simp; done) | (go_simp; rfl)); intro gb hg w1 hbox hb; have HX := Aside0.mk hbox; have HGE := Aside0.mk (show w.heap.size ≤ gb by rw [hg]; exact below_size HB.out); have HB1 := Aside0.mk (below_step HB.out hb); have y0 : w1.cell? ⟨gb, 0, none⟩ = some (.int .i64 0) := (blk_cell hbox 0).trans rfl; have y1 : w1.cell? ⟨gb, 1, none⟩ = some (.int .i64 0) := (blk_cell hbox 1).trans rfl; have y2 : w1.cell? ⟨gb, 2, none⟩ = some (.int .i64 0) := (blk_cell hbox 2).trans rfl; have y3 : w1.cell? ⟨gb, 3, none⟩ = some (.int .i64 0) := (blk_cell hbox 3).trans rfl; have y4 : w1.cell? ⟨gb, 4, none⟩ = some (.int .i64 0) := (blk_cell hbox 4).trans rfl; have y5 : w1.cell? ⟨gb, 5, none⟩ = some (.bool false) := (blk_cell hbox 5).trans rfl; have y6 : w1.cell? ⟨gb, 6, none⟩ = some (.int .i64 0) := (blk_cell hbox 6).trans rfl; have fy0 := blk_frozen hbox 0; have fy1 := blk_frozen hbox 1; have fy2 := blk_frozen hbox 2; have fy3 := blk_frozen hbox 3; have fy4 := blk_frozen hbox 4; have fy5 := blk_frozen hbox 5; have fy6 := blk_frozen hbox 6; clear hbox hb hg HB) | (go_at_call 10; have hW := below_set7 HB1.out HGE.out (.int .i64 s.f0) (.int .i64 s.f1) (.int .i64 s.f2) (.int .i64 s.f3) (.int .i64 s.f4) (.bool s.f5) (.int .i64 s.f6); have hx := blk_set7 HX.out (.int .i64 s.f0) (.int .i64 s.f1) (.int .i64 s.f2) (.int .i64 s.f3) (.int .i64 s.f4) (.bool s.f5) (.int .i64 s.f6); refine (crossroadlaw04_Seed_Text.calls K1 s.f0 s.f1 s.f2 s.f3 s.f4 s.f5 s.f6 X _ HT.out (GlobOK.below HG.out hW rfl)).mono ?_; rintro e w3 ⟨rfl, hb3⟩; have HX3 := Aside0.mk (blk_grown hx (grown_of_below hb3 none) (by simp)); have HB3 := Aside0.mk (below_step hW hb3); clear hW hx hb3 HX HB1 HT; clear y0 fy0 y1 fy1 y2 fy2 y3 fy3 y4 fy4 y5 fy5 y6 fy6; have y5 : w3.cell? ⟨gb, 5, none⟩ = some (.bool s.f5) := (blk_cell HX3.out 5).trans rfl; have y6 : w3.cell? ⟨gb, 6, none⟩ = some (.int .i64 s.f6) := (blk_cell HX3.out 6).trans rfl))
      cases ov with
      | true =>
        go_wp2
        go_roundg k1
        case measure => omega
        case rel => exact ⟨wrap64 (x + 1), T ++ X, nw, st, true, by first | rfl | simp, by first | rfl | simp, by first | rfl | simp, by first | rfl | simp, by first | rfl | simp, ⟨by rw [HXe.out]; exact HA.out.over HL.out⟩, ⟨HB3.out⟩⟩
      | false =>
        obtain ⟨wv, hwv, hw16⟩ := and15_lt s.f6
        have hwr : wrOf s.f6 = wrN wv := by unfold wrOf; rw [hwv]; simp only [Int.toNat_natCast]
        by_cases hw : wv = 1 ∨ wv = 2 ∨ wv = 3
        · have HW := Aside0.mk (show wrOf s.f6 = wv by rw [hwr, wrN, if_pos hw])
          have HW1 := Aside0.mk hw
          have HI := Aside0.mk (st_ix wv hw)
          obtain ⟨wi, hwi⟩ : ∃ wi : Int, wi = (wv : Int) := ⟨_, rfl⟩
          rw [← hwi] at hwv HI
          have t40 : decide (1 ≤ wi) = true := decide_eq_true (by omega)
          have t43 : decide (wi ≤ 3) = true := decide_eq_true (by omega)
          clear hw16 hwr hw hwi
          go_wp2
          refine start_ (n := 5) (S := fun w' => (Instr.index 41 (.agg #[.int .i64 0, .int .i64 400, .int .i64 413, .int .i64 501]) (.int .i64 wi)).run Tryd.prog w' = .ok (.int .i64 (wrongS wv)) w') (ds := []) #[false, false, false, false, false] (by kernel_rfl) rfl rfl (HI.out _) (fun hHeld => ?_)
          refine pure_ (i := 0) (N := some 45) (v := ?_) (a' := ?_) #[true, false, false, false, false] rfl rfl (by kernel_rfl) (fun _ _ _ h => h) (Or.inl ⟨by rfl, ?_⟩) ?_ ?_
          rotate_left
          · intro w'
            go_simp
            with_reducible rfl
          rotate_left
          · simp only [Act.put, List.setIfInBounds_toArray, List.set_cons_zero, List.set_cons_succ, i64_w, i32_w]
            rfl
          refine pure_ (i := 1) (N := some 46) (v := ?_) (a' := ?_) #[true, true, false, false, false] rfl rfl (by kernel_rfl) (fun _ _ _ h => h) (Or.inl ⟨by rfl, ?_⟩) ?_ ?_
          rotate_left
          · intro w'
            go_simp
            with_reducible rfl
          rotate_left
          · simp only [Act.put, List.setIfInBounds_toArray, List.set_cons_zero, List.set_cons_succ, i64_w, i32_w]
            rfl
          refine pure_ (i := 3) (N := some 6) (v := ?_) (a' := ?_) #[true, true, false, true, false] rfl rfl (by kernel_rfl) (fun _ _ _ h => h) (Or.inl ⟨by rfl, ?_⟩) ?_ ?_
          rotate_left
          · intro w'
            go_simp
            with_reducible rfl
          rotate_left
          · simp only [Act.put, List.setIfInBounds_toArray, List.set_cons_zero, List.set_cons_succ, i64_w, i32_w]
            rfl
          refine take_ (i := 2) (N := some 47) (v := ?_) (a' := ?_) #[true, true, true, true, false] rfl rfl (by kernel_rfl) (fun _ _ _ h => h) (Or.inl ⟨by rfl, ?_⟩) hHeld ?_ ?_
          rotate_left
          · intro w' s0
            go_simp
            with_reducible rfl
          rotate_left
          · simp only [Act.put, List.setIfInBounds_toArray, List.set_cons_zero, List.set_cons_succ, i64_w, i32_w]
            rfl
          refine pure_ (i := 4) (N := some 5) (v := ?_) (a' := ?_) #[true, true, true, true, true] rfl rfl (by kernel_rfl) (fun _ _ _ h => h) (Or.inl ⟨by rfl, ?_⟩) ?_ ?_
          rotate_left
          · intro w'
            go_simp
            with_reducible rfl
          rotate_left
          · simp only [Act.put, List.setIfInBounds_toArray, List.set_cons_zero, List.set_cons_succ, i64_w, i32_w]
            rfl
          refine done_ (by kernel_rfl) ?_
          go_wp2
          go_roundg k1
          case measure => omega
          have HAw := HA.out.wrong HL.out (by rw [← HSe.out, HW.out]; have := HW1.out; omega)
          rw [← HSe.out, HW.out] at HAw
          case rel => exact ⟨wrap64 (x + 1), T ++ X, nw, wrongS wv, true, by first | rfl | simp, by first | rfl | simp, by first | rfl | simp, by first | rfl | simp, by first | rfl | simp, ⟨by rw [HXe.out]; exact by rw [HSe.out] at HAw; exact HAw⟩, ⟨below_drew HB3.out⟩⟩
        · have HW := Aside0.mk (show wrOf s.f6 = 0 by rw [hwr, wrN, if_neg hw])
          obtain ⟨wi, hwi⟩ : ∃ wi : Int, wi = (wv : Int) := ⟨_, rfl⟩
          rw [← hwi] at hwv
          have HAg := Aside0.mk (HA.out.good HL.out (by rw [← HSe.out]; exact HW.out))
          by_cases h1 : 1 ≤ wi
          · have t40 : decide (1 ≤ wi) = true := decide_eq_true h1
            have t43 : decide (wi ≤ 3) = false := decide_eq_false (by omega)
            clear hw16 hwr hw hwi h1
            go_wp2
            go_roundg k1
            case measure => omega
            case rel => exact ⟨wrap64 (x + 1), T ++ X, wrap64 (nw + 1), st, s.f5, by first | rfl | simp, by first | rfl | simp, by first | rfl | simp, by first | rfl | simp, by first | rfl | simp, ⟨by rw [HXe.out]; exact by have h := HAg.out; rw [← HSe.out] at h ⊢; exact h⟩, ⟨HB3.out⟩⟩
          · have t40 : decide (1 ≤ wi) = false := decide_eq_false h1
            clear hw16 hwr hw hwi h1
            go_wp2
            go_roundg k1
            case measure => omega
            case rel => exact ⟨wrap64 (x + 1), T ++ X, wrap64 (nw + 1), st, s.f5, by first | rfl | simp, by first | rfl | simp, by first | rfl | simp, by first | rfl | simp, by first | rfl | simp, ⟨by rw [HXe.out]; exact by have h := HAg.out; rw [← HSe.out] at h ⊢; exact h⟩, ⟨HB3.out⟩⟩
    | zero =>
      have hx := HA.out.at_end
      have c3 : decide (x < (l.length : Int)) = false := decide_eq_false (by omega)
      obtain ⟨hall, hn⟩ := HA.out.all HL.out
      obtain ⟨K2, hK2⟩ := ev_get hall
      have hat := seeds_at l
      have hfew := Nat.le_trans (seeds_few l) HL.out
      obtain ⟨R, hR⟩ : ∃ R, R = (wantS (l.map sR)).1.map SeedR.rq := ⟨_, rfl⟩
      rw [← hR] at hK2 hn hat hfew
      subst hn
      have HALL := Aside0.mk hK2
      have HAT := Aside0.mk hat
      have HFEW := Aside0.mk hfew
      clear hx hall hK2 hat hR HA hfew
      go_wp2_with (go_at_call 9; refine (cutter_All.calls K2 _ _ _ _ HALL.out).mono ?_; rintro e w4 ⟨v1, rfl, hS, hb4⟩; obtain ⟨A1, cp1, rfl⟩ := Kd.S_slice hS; have HS := Aside0.mk (Exists.intro (p := fun nb => Kd.S k31 31 w4 nb (fun _ => True) (.slice A1 R.length cp1) R) _ hS); have HB4 := Aside0.mk (below_step HB.out hb4); clear hS hb4 HB HALL)
      go_loopg [65] R.length (fun kq v65 w' => ∃ (y : Int), v65 = .int .i64 y ∧ Aside0 (0 ≤ y ∧ y + (kq : Int) = (R.length : Int)) ∧ Aside0 (∃ nb, Kd.S k31 31 w' nb (fun _ => True) (.slice A1 R.length cp1) R) ∧ Aside0 (Below w.heap.size w w'))
      case atStart => exact ⟨0, rfl, ⟨by omega⟩, HS, HB4⟩
      case round =>
        clear HS HB4 c3
        obtain ⟨y, rfl, HK, HS, HB⟩ := hrel
        cases gk with
        | zero =>
          have c4 : decide (y < (R.length : Int)) = false := decide_eq_false (by have := HK.out; omega)
          go_wp2
          go_ret
          exact ⟨rfl, HB.out⟩
        | succ k1 =>
          obtain ⟨p0, hyk⟩ := HK.out
          have p1 : y < (R.length : Int) := by omega
          obtain ⟨nb, hS⟩ := HS.out
          obtain ⟨p2, hq⟩ := HAT.out y p0 p1
          obtain ⟨ad1, A2, c2, ea1, u0, u1, u2, u3, u4, _, _⟩ := at_T31 (Kd.S_reads' hS).2.2 y p0 p1
          cases ea1
          obtain ⟨ad, ea, hx0, hx1, hx2, hx3, hx4, hx5, hx6⟩ := at_T23 HC.out y p0 p2
          cases ea
          replace hx0 := (HB.out.cell (World.block_lt_of_cell? w _ hx0)).trans hx0
          replace hx1 := (HB.out.cell (World.block_lt_of_cell? w _ hx1)).trans hx1
          replace hx2 := (HB.out.cell (World.block_lt_of_cell? w _ hx2)).trans hx2
          replace hx3 := (HB.out.cell (World.block_lt_of_cell? w _ hx3)).trans hx3
          replace hx4 := (HB.out.cell (World.block_lt_of_cell? w _ hx4)).trans hx4
          replace hx5 := (HB.out.cell (World.block_lt_of_cell? w _ hx5)).trans hx5
          replace hx6 := (HB.out.cell (World.block_lt_of_cell? w _ hx6)).trans hx6
          have HS2 := Aside0.mk hS
          clear hS HS
          obtain ⟨s, hs⟩ : ∃ s, s = rd_T23 l y := ⟨_, rfl⟩
          rw [← hs] at hx0 hx1 hx2 hx3 hx4 hx5 hx6 hq
          obtain ⟨mi, hmi, hm6⟩ := mod6_lt s.f0
          obtain ⟨ti, hti, ht16⟩ := and15_lt s.f1
          obtain ⟨bi, hbi, hb8⟩ := and7_lt s.f2
          have hG := GlobOK.below HG.out HB.out rfl
          obtain ⟨M, hM⟩ : ∃ M, M = toBA (mL mi) := ⟨_, rfl⟩
          obtain ⟨Tg, hTg⟩ : ∃ Tg, Tg = toBA (tL ti) := ⟨_, rfl⟩
          obtain ⟨B, hB⟩ : ∃ B, B = toBA (bL bi) := ⟨_, rfl⟩
          have gm := glob_m hG mi hm6
          have gt := glob_t hG ti ht16
          have gbo := glob_b hG bi hb8
          rw [← hM] at gm
          rw [← hTg] at gt
          rw [← hB] at gbo
          obtain ⟨F, hF⟩ : ∃ F, rd_T31 R y = ⟨M, Tg, F, B, s.f5⟩ := ⟨(sR s).rq.f2, by rw [hq, hM, hTg, hB]; unfold SeedR.rq sR; rw [hmi, hti, hbi]; simp only [Int.toNat_natCast]; rfl⟩
          rw [hF] at u0 u1 u2 u3 u4
          simp only at u0 u1 u2 u3 u4
          have r0 := eq_true p0
          have r1 := eq_true p1
          have r2 := eq_true p2
          have c4 : decide (y < (R.length : Int)) = true := decide_eq_true p1
          have bm : (mi : Int) < 6 := by omega
          have bt : (ti : Int) < 16 := by omega
          have bb : (bi : Int) < 8 := by omega
          have HYK := Aside0.mk hyk
          have HP0 := Aside0.mk p0
          clear hs hq hF hM hTg hB hm6 ht16 hb8 hG HAT p0 p1 p2 hyk HK
          go_upto_region 24 with ((with_reducible refine gate_dst (N := 13) rfl ?_); refine box_event ?hg (N := 13) ?hd (cs := #[.string (⟨#[]⟩ : ByteArray), .string (⟨#[]⟩ : ByteArray), .slice none 0 0, .string (⟨#[]⟩ : ByteArray), .bool false]) (t := 31) ?hr ?_; (case hd => rfl); (case hg => rfl); (case hr => first | (go_simp; done) | (go_simp; rfl)); intro g1 hg w5 hbox hb; have HX := Aside0.mk hbox; have HGE := Aside0.mk (show wr.heap.size ≤ g1 by rw [hg]; exact Nat.le_refl _); have HG1 := Aside0.mk (show 2 < g1 by have := World.block_lt_of_cell? wr _ gm; simp only at this; omega); have HB1 := Aside0.mk hb; have y0 : w5.cell? ⟨g1, 0, none⟩ = some (.string (⟨#[]⟩ : ByteArray)) := (blk_cell hbox 0).trans rfl; have y1 : w5.cell? ⟨g1, 1, none⟩ = some (.string (⟨#[]⟩ : ByteArray)) := (blk_cell hbox 1).trans rfl; have y2 : w5.cell? ⟨g1, 2, none⟩ = some (.slice none 0 0) := (blk_cell hbox 2).trans rfl; have y3 : w5.cell? ⟨g1, 3, none⟩ = some (.string (⟨#[]⟩ : ByteArray)) := (blk_cell hbox 3).trans rfl; have y4 : w5.cell? ⟨g1, 4, none⟩ = some (.bool false) := (blk_cell hbox 4).trans rfl; have fy0 := blk_frozen hbox 0; have fy1 := blk_frozen hbox 1; have fy2 := blk_frozen hbox 2; have fy3 := blk_frozen hbox 3; have fy4 := blk_frozen hbox 4; clear hbox hb hg)
          have hb5 := below_set5 HB1.out HGE.out (.string M) (.string Tg) (.slice A2 F.length c2) (.string B) (.bool s.f5)
          have k5 := blk_set5 HX.out (.string M) (.string Tg) (.slice A2 F.length c2) (.string B) (.bool s.f5)
          obtain ⟨W, hW⟩ : ∃ W, W = (((((w5.setCell ⟨g1, 0, none⟩ (.string M)).setCell ⟨g1, 1, none⟩ (.string Tg)).setCell ⟨g1, 2, none⟩ (.slice A2 F.length c2)).setCell ⟨g1, 3, none⟩ (.string B)).setCell ⟨g1, 4, none⟩ (.bool s.f5)) := ⟨_, rfl⟩
          rw [← hW] at hb5 k5 ⊢
          clear hW HX HB1 HGE y0 fy0 y1 fy1 y2 fy2 y3 fy3 y4 fy4
          replace hx0 := pw_cell_below hb5 hx0
          replace hx1 := pw_cell_below hb5 hx1
          replace hx2 := pw_cell_below hb5 hx2
          replace hx3 := pw_cell_below hb5 hx3
          replace hx4 := pw_cell_below hb5 hx4
          replace hx5 := pw_cell_below hb5 hx5
          replace hx6 := pw_cell_below hb5 hx6
          have gm := pw_cell_below hb5 gm
          have gt := pw_cell_below hb5 gt
          have gbo := pw_cell_below hb5 gbo
          have HK5 := Aside0.mk k5
          have HB5 := Aside0.mk hb5
          clear k5 hb5 u0 u1 u2 u3 u4
          go_wp2_with ((with_reducible refine gate_dst (N := 14) rfl ?_); refine box_event ?hg (N := 14) ?hd (cs := #[.int .i64 0, .int .i64 0, .int .i64 0, .int .i64 0, .int .i64 0, .bool false, .int .i64 0]) (t := 23) ?hr ?_; (case hd => rfl); (case hg => rfl); (case hr => first | (go_simp; done) | (go_simp; rfl)); intro g2 hg w6 hbox hb; have HX := Aside0.mk hbox; have HK6 := Aside0.mk (blk_grown HK5.out (grown_of_below hb none) (by simp)); have HG2 := Aside0.mk (show 2 < g2 by have := blk_lt HK5.out; have := HG1.out; omega); have HNE := Aside0.mk (show g1 ≠ g2 by have := blk_lt HK5.out; omega); have HGE := Aside0.mk (show wr.heap.size ≤ g2 by rw [hg]; exact HB5.out.size); have HB6 := Aside0.mk (below_step HB5.out hb); replace gm := pw_cell_below hb gm; replace gt := pw_cell_below hb gt; replace gbo := pw_cell_below hb gbo; have y0 : w6.cell? ⟨g2, 0, none⟩ = some (.int .i64 0) := (blk_cell hbox 0).trans rfl; have y1 : w6.cell? ⟨g2, 1, none⟩ = some (.int .i64 0) := (blk_cell hbox 1).trans rfl; have y2 : w6.cell? ⟨g2, 2, none⟩ = some (.int .i64 0) := (blk_cell hbox 2).trans rfl; have y3 : w6.cell? ⟨g2, 3, none⟩ = some (.int .i64 0) := (blk_cell hbox 3).trans rfl; have y4 : w6.cell? ⟨g2, 4, none⟩ = some (.int .i64 0) := (blk_cell hbox 4).trans rfl; have y5 : w6.cell? ⟨g2, 5, none⟩ = some (.bool false) := (blk_cell hbox 5).trans rfl; have y6 : w6.cell? ⟨g2, 6, none⟩ = some (.int .i64 0) := (blk_cell hbox 6).trans rfl; have fy0 := blk_frozen hbox 0; have fy1 := blk_frozen hbox 1; have fy2 := blk_frozen hbox 2; have fy3 := blk_frozen hbox 3; have fy4 := blk_frozen hbox 4; have fy5 := blk_frozen hbox 5; have fy6 := blk_frozen hbox 6; clear hbox hb hg HK5 HB5)
          have hb7 := below_set7 HB6.out HGE.out (.int .i64 s.f0) (.int .i64 s.f1) (.int .i64 s.f2) (.int .i64 s.f3) (.int .i64 s.f4) (.bool s.f5) (.int .i64 s.f6)
          have k7 := blk_set7 HX.out (.int .i64 s.f0) (.int .i64 s.f1) (.int .i64 s.f2) (.int .i64 s.f3) (.int .i64 s.f4) (.bool s.f5) (.int .i64 s.f6)
          have k1_ := blk_far7 HK6.out HNE.out (.int .i64 s.f0) (.int .i64 s.f1) (.int .i64 s.f2) (.int .i64 s.f3) (.int .i64 s.f4) (.bool s.f5) (.int .i64 s.f6)
          skip
          replace gm := cell_far7 (g := g2) gm (by have := HG2.out; show _ ≠ g2; simp only; omega) (.int .i64 s.f0) (.int .i64 s.f1) (.int .i64 s.f2) (.int .i64 s.f3) (.int .i64 s.f4) (.bool s.f5) (.int .i64 s.f6)
          replace gt := cell_far7 (g := g2) gt (by have := HG2.out; show _ ≠ g2; simp only; omega) (.int .i64 s.f0) (.int .i64 s.f1) (.int .i64 s.f2) (.int .i64 s.f3) (.int .i64 s.f4) (.bool s.f5) (.int .i64 s.f6)
          replace gbo := cell_far7 (g := g2) gbo (by have := HG2.out; show _ ≠ g2; simp only; omega) (.int .i64 s.f0) (.int .i64 s.f1) (.int .i64 s.f2) (.int .i64 s.f3) (.int .i64 s.f4) (.bool s.f5) (.int .i64 s.f6)
          obtain ⟨V, hV⟩ : ∃ V, V = (((((((w6.setCell ⟨g2, 0, none⟩ (.int .i64 s.f0)).setCell ⟨g2, 1, none⟩ (.int .i64 s.f1)).setCell ⟨g2, 2, none⟩ (.int .i64 s.f2)).setCell ⟨g2, 3, none⟩ (.int .i64 s.f3)).setCell ⟨g2, 4, none⟩ (.int .i64 s.f4)).setCell ⟨g2, 5, none⟩ (.bool s.f5)).setCell ⟨g2, 6, none⟩ (.int .i64 s.f6)) := ⟨_, rfl⟩
          rw [← hV] at hb7 k7 k1_ gm gt gbo ⊢
          clear hV HX HB6 HGE HK6 HNE HG2 hx0 hx1 hx2 hx3 hx4 hx5 hx6 y0 fy0 y1 fy1 y2 fy2 y3 fy3 y4 fy4 y5 fy5 y6 fy6
          have eg1_0 : V.cell? ⟨g1, 0, none⟩ = some (.string M) := (blk_cell k1_ 0).trans rfl
          have eg1_1 : V.cell? ⟨g1, 1, none⟩ = some (.string Tg) := (blk_cell k1_ 1).trans rfl
          have eg1_3 : V.cell? ⟨g1, 3, none⟩ = some (.string B) := (blk_cell k1_ 3).trans rfl
          have eg1_4 : V.cell? ⟨g1, 4, none⟩ = some (.bool s.f5) := (blk_cell k1_ 4).trans rfl
          have eg2_0 : V.cell? ⟨g2, 0, none⟩ = some (.int .i64 s.f0) := (blk_cell k7 0).trans rfl
          have eg2_1 : V.cell? ⟨g2, 1, none⟩ = some (.int .i64 s.f1) := (blk_cell k7 1).trans rfl
          have eg2_2 : V.cell? ⟨g2, 2, none⟩ = some (.int .i64 s.f2) := (blk_cell k7 2).trans rfl
          have eg2_5 : V.cell? ⟨g2, 5, none⟩ = some (.bool s.f5) := (blk_cell k7 5).trans rfl
          have HB7 := Aside0.mk (below_drew hb7)
          clear hb7 k7 k1_
          refine start_ (n := 36) (S := fun w' => w'.cell? ⟨g1, 0, none⟩ = some (.string M) ∧ w'.cell? ⟨g1, 1, none⟩ = some (.string Tg) ∧ w'.cell? ⟨g1, 3, none⟩ = some (.string B) ∧ w'.cell? ⟨g1, 4, none⟩ = some (.bool s.f5) ∧ w'.cell? ⟨g2, 0, none⟩ = some (.int .i64 s.f0) ∧ w'.cell? ⟨g2, 1, none⟩ = some (.int .i64 s.f1) ∧ w'.cell? ⟨g2, 2, none⟩ = some (.int .i64 s.f2) ∧ w'.cell? ⟨g2, 5, none⟩ = some (.bool s.f5) ∧ w'.cell? ⟨2, mi, none⟩ = some (.string M) ∧ w'.cell? ⟨1, ti, none⟩ = some (.string Tg) ∧ w'.cell? ⟨0, bi, none⟩ = some (.string B)) (ds := []) #[false, false, false, false, false, false, false, false, false, false, false, false, false, false, false, false, false, false, false, false, false, false, false, false, false, false, false, false, false, false, false, false, false, false, false, false] (by kernel_rfl) rfl rfl ⟨cell_drew eg1_0, cell_drew eg1_1, cell_drew eg1_3, cell_drew eg1_4, cell_drew eg2_0, cell_drew eg2_1, cell_drew eg2_2, cell_drew eg2_5, cell_drew gm, cell_drew gt, cell_drew gbo⟩ (fun hHeld => ?_)
          refine pure_ (i := 0) (N := some 74) (v := ?_) (a' := ?_) #[true, false, false, false, false, false, false, false, false, false, false, false, false, false, false, false, false, false, false, false, false, false, false, false, false, false, false, false, false, false, false, false, false, false, false, false] rfl rfl (by kernel_rfl) (fun _ _ _ h => h) (Or.inl ⟨by rfl, ?_⟩) ?_ ?_
          rotate_left
          · intro w'
            go_simp
            with_reducible rfl
          rotate_left
          · simp only [Act.put, List.setIfInBounds_toArray, List.set_cons_zero, List.set_cons_succ, i64_w, i32_w]
            rfl
          refine pure_ (i := 2) (N := some 76) (v := ?_) (a' := ?_) #[true, false, true, false, false, false, false, false, false, false, false, false, false, false, false, false, false, false, false, false, false, false, false, false, false, false, false, false, false, false, false, false, false, false, false, false] rfl rfl (by kernel_rfl) (fun _ _ _ h => h) (Or.inl ⟨by rfl, ?_⟩) ?_ ?_
          rotate_left
          · intro w'
            go_simp
            with_reducible rfl
          rotate_left
          · simp only [Act.put, List.setIfInBounds_toArray, List.set_cons_zero, List.set_cons_succ, i64_w, i32_w]
            rfl
          refine take_ (i := 1) (N := some 75) (v := ?_) (a' := ?_) #[true, true, true, false, false, false, false, false, false, false, false, false, false, false, false, false, false, false, false, false, false, false, false, false, false, false, false, false, false, false, false, false, false, false, false, false] rfl rfl (by kernel_rfl) (fun _ _ _ h => h) (Or.inl ⟨by rfl, ?_⟩) hHeld ?_ ?_
          rotate_left
          · rintro w' ⟨s0, s1, s2, s3, s4, s5, s6, s7, s8, s9, s10⟩
            go_simp
            with_reducible rfl
          rotate_left
          · simp only [Act.put, List.setIfInBounds_toArray, List.set_cons_zero, List.set_cons_succ, i64_w, i32_w]
            rfl
          refine take_ (i := 3) (N := some 77) (v := ?_) (a' := ?_) #[true, true, true, true, false, false, false, false, false, false, false, false, false, false, false, false, false, false, false, false, false, false, false, false, false, false, false, false, false, false, false, false, false, false, false, false] rfl rfl (by kernel_rfl) (fun _ _ _ h => h) (Or.inl ⟨by rfl, ?_⟩) hHeld ?_ ?_
          rotate_left
          · rintro w' ⟨s0, s1, s2, s3, s4, s5, s6, s7, s8, s9, s10⟩
            go_simp
            with_reducible rfl
          rotate_left
          · simp only [Act.put, List.setIfInBounds_toArray, List.set_cons_zero, List.set_cons_succ, i64_w, i32_w]
            rfl
          refine pure_ (i := 4) (N := some 78) (v := ?_) (a' := ?_) #[true, true, true, true, true, false, false, false, false, false, false, false, false, false, false, false, false, false, false, false, false, false, false, false, false, false, false, false, false, false, false, false, false, false, false, false] rfl rfl (by kernel_rfl) (fun _ _ _ h => h) (Or.inl ⟨by rfl, ?_⟩) ?_ ?_
          rotate_left
          · intro w'
            go_simp
            with_reducible rfl
          rotate_left
          · simp only [Act.put, List.setIfInBounds_toArray, List.set_cons_zero, List.set_cons_succ, i64_w, i32_w]
            rfl
          refine pure_ (i := 5) (N := some 79) (v := ?_) (a' := ?_) #[true, true, true, true, true, true, false, false, false, false, false, false, false, false, false, false, false, false, false, false, false, false, false, false, false, false, false, false, false, false, false, false, false, false, false, false] rfl rfl (by kernel_rfl) (fun _ _ _ h => h) (Or.inl ⟨by rfl, ?_⟩) ?_ ?_
          rotate_left
          · intro w'
            go_simp
            with_reducible rfl
          rotate_left
          · simp only [Act.put, List.setIfInBounds_toArray, List.set_cons_zero, List.set_cons_succ, i64_w, i32_w]
            rfl
          refine take_ (i := 6) (N := some 80) (v := ?_) (a' := ?_) #[true, true, true, true, true, true, true, false, false, false, false, false, false, false, false, false, false, false, false, false, false, false, false, false, false, false, false, false, false, false, false, false, false, false, false, false] rfl rfl (by kernel_rfl) (fun _ _ _ h => h) (Or.inl ⟨by rfl, ?_⟩) hHeld ?_ ?_
          rotate_left
          · rintro w' ⟨s0, s1, s2, s3, s4, s5, s6, s7, s8, s9, s10⟩
            go_simp
            with_reducible rfl
          rotate_left
          · simp only [Act.put, List.setIfInBounds_toArray, List.set_cons_zero, List.set_cons_succ, i64_w, i32_w]
            rfl
          refine pure_ (i := 7) (N := some 81) (v := ?_) (a' := ?_) #[true, true, true, true, true, true, true, true, false, false, false, false, false, false, false, false, false, false, false, false, false, false, false, false, false, false, false, false, false, false, false, false, false, false, false, false] rfl rfl (by kernel_rfl) (fun _ _ _ h => h) (Or.inl ⟨by rfl, ?_⟩) ?_ ?_
          rotate_left
          · intro w'
            go_simp
            with_reducible rfl
          rotate_left
          · simp only [Act.put, List.setIfInBounds_toArray, List.set_cons_zero, List.set_cons_succ, i64_w, i32_w]
            rfl
          refine pure_ (i := 8) (N := some 82) (v := ?_) (a' := ?_) #[true, true, true, true, true, true, true, true, true, false, false, false, false, false, false, false, false, false, false, false, false, false, false, false, false, false, false, false, false, false, false, false, false, false, false, false] rfl rfl (by kernel_rfl) (fun _ _ _ h => h) (Or.inl ⟨by rfl, ?_⟩) ?_ ?_
          rotate_left
          · intro w'
            go_simp
            with_reducible rfl
          rotate_left
          · simp only [Act.put, List.setIfInBounds_toArray, List.set_cons_zero, List.set_cons_succ, i64_w, i32_w]
            rfl
          refine pure_ (i := 9) (N := some 83) (v := ?_) (a' := ?_) #[true, true, true, true, true, true, true, true, true, true, false, false, false, false, false, false, false, false, false, false, false, false, false, false, false, false, false, false, false, false, false, false, false, false, false, false] rfl rfl (by kernel_rfl) (fun _ _ _ h => h) (Or.inl ⟨by rfl, ?_⟩) ?_ ?_
          rotate_left
          · intro w'
            go_simp
            with_reducible rfl
          rotate_left
          · simp only [Act.put, List.setIfInBounds_toArray, List.set_cons_zero, List.set_cons_succ, i64_w, i32_w]
            rfl
          refine pure_ (i := 11) (N := some 85) (v := ?_) (a' := ?_) #[true, true, true, true, true, true, true, true, true, true, false, true, false, false, false, false, false, false, false, false, false, false, false, false, false, false, false, false, false, false, false, false, false, false, false, false] rfl rfl (by kernel_rfl) (fun _ _ _ h => h) (Or.inl ⟨by rfl, ?_⟩) ?_ ?_
          rotate_left
          · intro w'
            go_simp
            with_reducible rfl
          rotate_left
          · simp only [Act.put, List.setIfInBounds_toArray, List.set_cons_zero, List.set_cons_succ, i64_w, i32_w]
            rfl
          refine take_ (i := 10) (N := some 84) (v := ?_) (a' := ?_) #[true, true, true, true, true, true, true, true, true, true, true, true, false, false, false, false, false, false, false, false, false, false, false, false, false, false, false, false, false, false, false, false, false, false, false, false] rfl rfl (by kernel_rfl) (fun _ _ _ h => h) (Or.inl ⟨by rfl, ?_⟩) hHeld ?_ ?_
          rotate_left
          · rintro w' ⟨s0, s1, s2, s3, s4, s5, s6, s7, s8, s9, s10⟩
            go_simp
            with_reducible rfl
          rotate_left
          · simp only [Act.put, List.setIfInBounds_toArray, List.set_cons_zero, List.set_cons_succ, i64_w, i32_w]
            rfl
          refine take_ (i := 12) (N := some 86) (v := ?_) (a' := ?_) #[true, true, true, true, true, true, true, true, true, true, true, true, true, false, false, false, false, false, false, false, false, false, false, false, false, false, false, false, false, false, false, false, false, false, false, false] rfl rfl (by kernel_rfl) (fun _ _ _ h => h) (Or.inl ⟨by rfl, ?_⟩) hHeld ?_ ?_
          rotate_left
          · rintro w' ⟨s0, s1, s2, s3, s4, s5, s6, s7, s8, s9, s10⟩
            go_simp
            with_reducible rfl
          rotate_left
          · simp only [Act.put, List.setIfInBounds_toArray, List.set_cons_zero, List.set_cons_succ, i64_w, i32_w]
            rfl
          refine pure_ (i := 13) (N := some 87) (v := ?_) (a' := ?_) #[true, true, true, true, true, true, true, true, true, true, true, true, true, true, false, false, false, false, false, false, false, false, false, false, false, false, false, false, false, false, false, false, false, false, false, false] rfl rfl (by kernel_rfl) (fun _ _ _ h => h) (Or.inl ⟨by rfl, ?_⟩) ?_ ?_
          rotate_left
          · intro w'
            go_simp
            with_reducible rfl
          rotate_left
          · simp only [Act.put, List.setIfInBounds_toArray, List.set_cons_zero, List.set_cons_succ, i64_w, i32_w]
            rfl
          refine pure_ (i := 14) (N := some 88) (v := ?_) (a' := ?_) #[true, true, true, true, true, true, true, true, true, true, true, true, true, true, true, false, false, false, false, false, false, false, false, false, false, false, false, false, false, false, false, false, false, false, false, false] rfl rfl (by kernel_rfl) (fun _ _ _ h => h) (Or.inl ⟨by rfl, ?_⟩) ?_ ?_
          rotate_left
          · intro w'
            go_simp
            with_reducible rfl
          rotate_left
          · simp only [Act.put, List.setIfInBounds_toArray, List.set_cons_zero, List.set_cons_succ, i64_w, i32_w]
            rfl
          refine take_ (i := 15) (N := some 89) (v := ?_) (a' := ?_) #[true, true, true, true, true, true, true, true, true, true, true, true, true, true, true, true, false, false, false, false, false, false, false, false, false, false, false, false, false, false, false, false, false, false, false, false] rfl rfl (by kernel_rfl) (fun _ _ _ h => h) (Or.inl ⟨by rfl, ?_⟩) hHeld ?_ ?_
          rotate_left
          · rintro w' ⟨s0, s1, s2, s3, s4, s5, s6, s7, s8, s9, s10⟩
            go_simp
            with_reducible rfl
          rotate_left
          · simp only [Act.put, List.setIfInBounds_toArray, List.set_cons_zero, List.set_cons_succ, i64_w, i32_w]
            rfl
          refine pure_ (i := 16) (N := some 90) (v := ?_) (a' := ?_) #[true, true, true, true, true, true, true, true, true, true, true, true, true, true, true, true, true, false, false, false, false, false, false, false, false, false, false, false, false, false, false, false, false, false, false, false] rfl rfl (by kernel_rfl) (fun _ _ _ h => h) (Or.inl ⟨by rfl, ?_⟩) ?_ ?_
          rotate_left
          · intro w'
            go_simp
            with_reducible rfl
          rotate_left
          · simp only [Act.put, List.setIfInBounds_toArray, List.set_cons_zero, List.set_cons_succ, i64_w, i32_w]
            rfl
          refine pure_ (i := 17) (N := some 91) (v := ?_) (a' := ?_) #[true, true, true, true, true, true, true, true, true, true, true, true, true, true, true, true, true, true, false, false, false, false, false, false, false, false, false, false, false, false, false, false, false, false, false, false] rfl rfl (by kernel_rfl) (fun _ _ _ h => h) (Or.inl ⟨by rfl, ?_⟩) ?_ ?_
          rotate_left
          · intro w'
            go_simp
            with_reducible rfl
          rotate_left
          · simp only [Act.put, List.setIfInBounds_toArray, List.set_cons_zero, List.set_cons_succ, i64_w, i32_w]
            rfl
          refine pure_ (i := 18) (N := some 92) (v := ?_) (a' := ?_) #[true, true, true, true, true, true, true, true, true, true, true, true, true, true, true, true, true, true, true, false, false, false, false, false, false, false, false, false, false, false, false, false, false, false, false, false] rfl rfl (by kernel_rfl) (fun _ _ _ h => h) (Or.inl ⟨by rfl, ?_⟩) ?_ ?_
          rotate_left
          · intro w'
            go_simp
            with_reducible rfl
          rotate_left
          · simp only [Act.put, List.setIfInBounds_toArray, List.set_cons_zero, List.set_cons_succ, i64_w, i32_w]
            rfl
          refine pure_ (i := 19) (N := some 93) (v := ?_) (a' := ?_) #[true, true, true, true, true, true, true, true, true, true, true, true, true, true, true, true, true, true, true, true, false, false, false, false, false, false, false, false, false, false, false, false, false, false, false, false] rfl rfl (by kernel_rfl) (fun _ _ _ h => h) (Or.inl ⟨by rfl, ?_⟩) ?_ ?_
          rotate_left
          · intro w'
            go_simp
            with_reducible rfl
          rotate_left
          · simp only [Act.put, List.setIfInBounds_toArray, List.set_cons_zero, List.set_cons_succ, i64_w, i32_w]
            rfl
          refine pure_ (i := 21) (N := some 95) (v := ?_) (a' := ?_) #[true, true, true, true, true, true, true, true, true, true, true, true, true, true, true, true, true, true, true, true, false, true, false, false, false, false, false, false, false, false, false, false, false, false, false, false] rfl rfl (by kernel_rfl) (fun _ _ _ h => h) (Or.inl ⟨by rfl, ?_⟩) ?_ ?_
          rotate_left
          · intro w'
            go_simp
            with_reducible rfl
          rotate_left
          · simp only [Act.put, List.setIfInBounds_toArray, List.set_cons_zero, List.set_cons_succ, i64_w, i32_w]
            rfl
          refine take_ (i := 20) (N := some 94) (v := ?_) (a' := ?_) #[true, true, true, true, true, true, true, true, true, true, true, true, true, true, true, true, true, true, true, true, true, true, false, false, false, false, false, false, false, false, false, false, false, false, false, false] rfl rfl (by kernel_rfl) (fun _ _ _ h => h) (Or.inl ⟨by rfl, ?_⟩) hHeld ?_ ?_
          rotate_left
          · rintro w' ⟨s0, s1, s2, s3, s4, s5, s6, s7, s8, s9, s10⟩
            go_simp
            with_reducible rfl
          rotate_left
          · simp only [Act.put, List.setIfInBounds_toArray, List.set_cons_zero, List.set_cons_succ, i64_w, i32_w]
            rfl
          refine take_ (i := 22) (N := some 96) (v := ?_) (a' := ?_) #[true, true, true, true, true, true, true, true, true, true, true, true, true, true, true, true, true, true, true, true, true, true, true, false, false, false, false, false, false, false, false, false, false, false, false, false] rfl rfl (by kernel_rfl) (fun _ _ _ h => h) (Or.inl ⟨by rfl, ?_⟩) hHeld ?_ ?_
          rotate_left
          · rintro w' ⟨s0, s1, s2, s3, s4, s5, s6, s7, s8, s9, s10⟩
            go_simp
            with_reducible rfl
          rotate_left
          · simp only [Act.put, List.setIfInBounds_toArray, List.set_cons_zero, List.set_cons_succ, i64_w, i32_w]
            rfl
          refine pure_ (i := 23) (N := some 97) (v := ?_) (a' := ?_) #[true, true, true, true, true, true, true, true, true, true, true, true, true, true, true, true, true, true, true, true, true, true, true, true, false, false, false, false, false, false, false, false, false, false, false, false] rfl rfl (by kernel_rfl) (fun _ _ _ h => h) (Or.inl ⟨by rfl, ?_⟩) ?_ ?_
          rotate_left
          · intro w'
            go_simp
            with_reducible rfl
          rotate_left
          · simp only [Act.put, List.setIfInBounds_toArray, List.set_cons_zero, List.set_cons_succ, i64_w, i32_w]
            rfl
          refine pure_ (i := 24) (N := some 98) (v := ?_) (a' := ?_) #[true, true, true, true, true, true, true, true, true, true, true, true, true, true, true, true, true, true, true, true, true, true, true, true, true, false, false, false, false, false, false, false, false, false, false, false] rfl rfl (by kernel_rfl) (fun _ _ _ h => h) (Or.inl ⟨by rfl, ?_⟩) ?_ ?_
          rotate_left
          · intro w'
            go_simp
            with_reducible rfl
          rotate_left
          · simp only [Act.put, List.setIfInBounds_toArray, List.set_cons_zero, List.set_cons_succ, i64_w, i32_w]
            rfl
          refine pure_ (i := 25) (N := some 99) (v := ?_) (a' := ?_) #[true, true, true, true, true, true, true, true, true, true, true, true, true, true, true, true, true, true, true, true, true, true, true, true, true, true, false, false, false, false, false, false, false, false, false, false] rfl rfl (by kernel_rfl) (fun _ _ _ h => h) (Or.inl ⟨by rfl, ?_⟩) ?_ ?_
          rotate_left
          · intro w'
            go_simp
            with_reducible rfl
          rotate_left
          · simp only [Act.put, List.setIfInBounds_toArray, List.set_cons_zero, List.set_cons_succ, i64_w, i32_w]
            rfl
          refine pure_ (i := 26) (N := some 100) (v := ?_) (a' := ?_) #[true, true, true, true, true, true, true, true, true, true, true, true, true, true, true, true, true, true, true, true, true, true, true, true, true, true, true, false, false, false, false, false, false, false, false, false] rfl rfl (by kernel_rfl) (fun _ _ _ h => h) (Or.inl ⟨by rfl, ?_⟩) ?_ ?_
          rotate_left
          · intro w'
            go_simp
            with_reducible rfl
          rotate_left
          · simp only [Act.put, List.setIfInBounds_toArray, List.set_cons_zero, List.set_cons_succ, i64_w, i32_w]
            rfl
          refine pure_ (i := 28) (N := some 102) (v := ?_) (a' := ?_) #[true, true, true, true, true, true, true, true, true, true, true, true, true, true, true, true, true, true, true, true, true, true, true, true, true, true, true, false, true, false, false, false, false, false, false, false] rfl rfl (by kernel_rfl) (fun _ _ _ h => h) (Or.inl ⟨by rfl, ?_⟩) ?_ ?_
          rotate_left
          · intro w'
            go_simp
            with_reducible rfl
          rotate_left
          · simp only [Act.put, List.setIfInBounds_toArray, List.set_cons_zero, List.set_cons_succ, i64_w, i32_w]
            rfl
          refine take_ (i := 27) (N := some 101) (v := ?_) (a' := ?_) #[true, true, true, true, true, true, true, true, true, true, true, true, true, true, true, true, true, true, true, true, true, true, true, true, true, true, true, true, true, false, false, false, false, false, false, false] rfl rfl (by kernel_rfl) (fun _ _ _ h => h) (Or.inl ⟨by rfl, ?_⟩) hHeld ?_ ?_
          rotate_left
          · rintro w' ⟨s0, s1, s2, s3, s4, s5, s6, s7, s8, s9, s10⟩
            go_simp
            with_reducible rfl
          rotate_left
          · simp only [Act.put, List.setIfInBounds_toArray, List.set_cons_zero, List.set_cons_succ, i64_w, i32_w]
            rfl
          refine take_ (i := 29) (N := some 103) (v := ?_) (a' := ?_) #[true, true, true, true, true, true, true, true, true, true, true, true, true, true, true, true, true, true, true, true, true, true, true, true, true, true, true, true, true, true, false, false, false, false, false, false] rfl rfl (by kernel_rfl) (fun _ _ _ h => h) (Or.inl ⟨by rfl, ?_⟩) hHeld ?_ ?_
          rotate_left
          · rintro w' ⟨s0, s1, s2, s3, s4, s5, s6, s7, s8, s9, s10⟩
            go_simp
            with_reducible rfl
          rotate_left
          · simp only [Act.put, List.setIfInBounds_toArray, List.set_cons_zero, List.set_cons_succ, i64_w, i32_w]
            rfl
          refine pure_ (i := 30) (N := some 104) (v := ?_) (a' := ?_) #[true, true, true, true, true, true, true, true, true, true, true, true, true, true, true, true, true, true, true, true, true, true, true, true, true, true, true, true, true, true, true, false, false, false, false, false] rfl rfl (by kernel_rfl) (fun _ _ _ h => h) (Or.inl ⟨by rfl, ?_⟩) ?_ ?_
          rotate_left
          · intro w'
            go_simp
            with_reducible rfl
          rotate_left
          · simp only [Act.put, List.setIfInBounds_toArray, List.set_cons_zero, List.set_cons_succ, i64_w, i32_w]
            rfl
          refine pure_ (i := 31) (N := some 105) (v := ?_) (a' := ?_) #[true, true, true, true, true, true, true, true, true, true, true, true, true, true, true, true, true, true, true, true, true, true, true, true, true, true, true, true, true, true, true, true, false, false, false, false] rfl rfl (by kernel_rfl) (fun _ _ _ h => h) (Or.inl ⟨by rfl, ?_⟩) ?_ ?_
          rotate_left
          · intro w'
            go_simp
            with_reducible rfl
          rotate_left
          · simp only [Act.put, List.setIfInBounds_toArray, List.set_cons_zero, List.set_cons_succ, i64_w, i32_w]
            rfl
          refine pure_ (i := 32) (N := some 106) (v := ?_) (a' := ?_) #[true, true, true, true, true, true, true, true, true, true, true, true, true, true, true, true, true, true, true, true, true, true, true, true, true, true, true, true, true, true, true, true, true, false, false, false] rfl rfl (by kernel_rfl) (fun _ _ _ h => h) (Or.inl ⟨by rfl, ?_⟩) ?_ ?_
          rotate_left
          · intro w'
            go_simp
            with_reducible rfl
          rotate_left
          · simp only [Act.put, List.setIfInBounds_toArray, List.set_cons_zero, List.set_cons_succ, i64_w, i32_w]
            rfl
          refine take_ (i := 33) (N := some 107) (v := ?_) (a' := ?_) #[true, true, true, true, true, true, true, true, true, true, true, true, true, true, true, true, true, true, true, true, true, true, true, true, true, true, true, true, true, true, true, true, true, true, false, false] rfl rfl (by kernel_rfl) (fun _ _ _ h => h) (Or.inl ⟨by rfl, ?_⟩) hHeld ?_ ?_
          rotate_left
          · rintro w' ⟨s0, s1, s2, s3, s4, s5, s6, s7, s8, s9, s10⟩
            go_simp
            with_reducible rfl
          rotate_left
          · simp only [Act.put, List.setIfInBounds_toArray, List.set_cons_zero, List.set_cons_succ, i64_w, i32_w]
            rfl
          refine pure_ (i := 34) (N := some 108) (v := ?_) (a' := ?_) #[true, true, true, true, true, true, true, true, true, true, true, true, true, true, true, true, true, true, true, true, true, true, true, true, true, true, true, true, true, true, true, true, true, true, true, false] rfl rfl (by kernel_rfl) (fun _ _ _ h => h) (Or.inl ⟨by rfl, ?_⟩) ?_ ?_
          rotate_left
          · intro w'
            go_simp
            with_reducible rfl
          rotate_left
          · simp only [Act.put, List.setIfInBounds_toArray, List.set_cons_zero, List.set_cons_succ, i64_w, i32_w]
            rfl
          refine pure_ (i := 35) (N := some 109) (v := ?_) (a' := ?_) #[true, true, true, true, true, true, true, true, true, true, true, true, true, true, true, true, true, true, true, true, true, true, true, true, true, true, true, true, true, true, true, true, true, true, true, true] rfl rfl (by kernel_rfl) (fun _ _ _ h => h) (Or.inl ⟨by rfl, ?_⟩) ?_ ?_
          rotate_left
          · intro w'
            go_simp
            with_reducible rfl
          rotate_left
          · simp only [Act.put, List.setIfInBounds_toArray, List.set_cons_zero, List.set_cons_succ, i64_w, i32_w]
            rfl
          refine done_ (by kernel_rfl) ?_
          go_wp2
          go_roundg k1
          case measure => omega
          case rel => exact ⟨wrap64 (y + 1), by first | rfl | simp, ⟨by have h1 := HYK.out; have h2 := HP0.out; have h3 := HFEW.out; rw [w64 (by omega) (by omega)]; omega⟩, ⟨nb, Kd.S_below HS2.out HB7.out⟩, ⟨below_step HB.out HB7.out⟩⟩
end Go.Proofs.YtldaingkcnmaoaaDoor.Pure

/- CutterLines: lines end by CR and LF together alone. No condition. -/
import Derived.Test.YtldaingkcnmaoaaDoorXLinesM
import Derived.Test.YtldaingkcnmaoaaDoorXSeedAll
import Derived.Test.YtldaingkcnmaoaaDoorX23
set_option linter.unusedVariables false
set_option linter.unusedSimpArgs false
namespace Go.Proofs.YtldaingkcnmaoaaDoor.Pure
open Go.RowKit Go.Proofs.YtldaingkcnmaoaaDoor.X Go.Proofs.YtldaingkcnmaoaaDoorW.PrintWords Go.Proofs.YtldaingkcnmaoaaDoorW.PrintLast Go.Proofs.YtldaingkcnmaoaaDoor.M

theorem lines_fin (T : List UInt8) (a1 : Int) (E : List Int) (m n : Nat) (hm : Aside0 (Int.tmod (bits .and .i64 a1 65535) (E.length : Int) = (m : Int))) (hm2 : m < E.length) (hr : rd E (m : Int) = (n : Int)) (h3 : n + 1 < T.length) (hlen : T.length ≤ 5000) (i : Int) (hi : ¬ i < (T.length : Int)) (l1 l2 : List Rq)
    (hA : Ev (fun k => cutter_All.f k (toBA (T.take n ++ T.drop (n + 1)))) (l1, 400)) (hB : Ev (fun k => cutter_All.f k (toBA ((T ++ [120]).set (n + 1) 120))) (l2, 400)) :
    Ev (fun k => crossroadlaw04_CutterLines.l0 k a1 (nts T) E (nts T) (T.length : Int) i) true := by
  have hw : wrap64 ((n : Int) + 1) = ((n + 1 : Nat) : Int) := by rw [w64 (by omega) (by omega)]; omega
  have hnl : (nts T).length = T.length := by simp [nts]
  have eA : strOfNums ((nts T).take n ++ (nts T).drop (n + 1)) = toBA (T.take n ++ T.drop (n + 1)) := by
    rw [← strOfNums_nats]
    congr 1
    simp [nts, List.map_take, List.map_drop]
  have eB : strOfNums ((nts T ++ [120]).set (n + 1) 120) = toBA ((T ++ [120]).set (n + 1) 120) := by
    rw [← strOfNums_nats]
    congr 1
    simp [nts, List.map_set]
  refine Ev.step' ?_
  simp only [crossroadlaw04_CutterLines.l0, if_neg hi, if_neg (show ¬ (E.length : Int) = 0 by omega), hm.out, hr, hw, hnl, Int.toNat_natCast, Option.bind_some, List.nil_append, List.length_nil, Nat.zero_add, List.length_append, List.length_take, List.length_drop, List.length_cons,
    if_pos (show (0 : Int) ≤ (m : Int) by omega), if_pos (show (m : Int) < (E.length : Int) by omega), if_pos (show (0 : Int) ≤ (n : Int) by omega), if_pos (show (n : Int) ≤ (T.length : Int) by omega), if_pos (show min n T.length < 140737488355328 by omega), if_pos (show (0 : Int) ≤ ((n + 1 : Nat) : Int) by omega), if_pos (show ((n + 1 : Nat) : Int) ≤ (T.length : Int) by omega), if_pos (show min n T.length + (T.length - (n + 1)) < 140737488355328 by omega), if_pos (show T.length < 140737488355328 by omega), if_pos (show ((n + 1 : Nat) : Int) < ((T.length + 1 : Nat) : Int) by omega), eA, eB]
  refine Ev.bind hA ?_
  refine Ev.bind hB ?_
  exact Ev.const rfl
theorem lines_end (ws : List (List UInt8)) (hws : ∀ w ∈ ws, M.Clean w ∧ w ≠ []) (hz : sizeOf' (ws ++ [[]]) ≤ 1000) (a1 : Int) (E : List Int) (hE : ∀ e ∈ E, ∃ n : Nat, e = (n : Int) ∧ (textOf (ws ++ [[]]))[n]? = some 13) (h0 : E ≠ []) (hlE : E.length ≤ 5000) (hlen : (textOf (ws ++ [[]])).length ≤ 5000) (i : Int) (hi : ¬ i < ((textOf (ws ++ [[]])).length : Int)) :
    Ev (fun k => crossroadlaw04_CutterLines.l0 k a1 (nts (textOf (ws ++ [[]]))) E (nts (textOf (ws ++ [[]]))) ((textOf (ws ++ [[]])).length : Int) i) true := by
  have hl0 : E.length ≠ 0 := fun e => h0 (List.eq_nil_of_length_eq_zero e)
  obtain ⟨m, hm, hm2⟩ : ∃ m : Nat, Int.tmod (bits .and .i64 a1 65535) (E.length : Int) = (m : Int) ∧ m < E.length := by
    rw [i64_and65535, Int.tmod_eq_emod_of_nonneg (by omega)]
    have q1 := Int.emod_nonneg (a1 % 65536) (b := (E.length : Int)) (by omega)
    have q2 := Int.emod_lt_of_pos (a1 % 65536) (b := (E.length : Int)) (by omega)
    exact ⟨(a1 % 65536 % (E.length : Int)).toNat, by omega, by omega⟩
  have hM := Aside0.mk hm
  clear hm
  have hlA : ∀ n : Nat, ((textOf (ws ++ [[]])).take n ++ (textOf (ws ++ [[]])).drop (n + 1)).length ≤ 100000000 := fun n => by simp only [List.length_append, List.length_take, List.length_drop]; omega
  have hlB : ∀ n : Nat, ((textOf (ws ++ [[]]) ++ [120]).set (n + 1) 120).length ≤ 100000000 := fun n => by simp only [List.length_set, List.length_append, List.length_cons, List.length_nil]; omega
  obtain ⟨n, hn, hT⟩ := hE E[m] (List.getElem_mem hm2)
  have hr : rd E (m : Int) = (n : Int) := by
    rw [rd, Int.toNat_natCast, List.getD_eq_getElem?_getD, List.getElem?_eq_getElem hm2, Option.getD_some, hn]
  obtain ⟨h1, h2, h3⟩ := lines_both ws hws hz n hT
  have hA := cut_all_f ((textOf (ws ++ [[]])).take n ++ (textOf (ws ++ [[]])).drop (n + 1)) (hlA n)
  have hB := cut_all_f ((textOf (ws ++ [[]]) ++ [120]).set (n + 1) 120) (hlB n)
  rw [h1] at hA
  rw [h2] at hB
  clear h1 h2
  exact lines_fin _ a1 E m n hM hm2 hr h3 hlen i hi _ _ hA hB
theorem lines_l0 (ws : List (List UInt8)) (hws : ∀ w ∈ ws, M.Clean w ∧ w ≠ []) (hz : sizeOf' (ws ++ [[]]) ≤ 1000) (a1 : Int) (hlen : (textOf (ws ++ [[]])).length ≤ 5000) (n0 : Nat) (hn0 : (textOf (ws ++ [[]]))[n0]? = some 13) :
    ∀ (d i : Nat) (E : List Int), i + d = (textOf (ws ++ [[]])).length → (∀ e ∈ E, ∃ n : Nat, e = (n : Int) ∧ (textOf (ws ++ [[]]))[n]? = some 13) → E.length ≤ i → (n0 < i → E ≠ []) →
    Ev (fun k => crossroadlaw04_CutterLines.l0 k a1 (nts (textOf (ws ++ [[]]))) E (nts (textOf (ws ++ [[]]))) ((textOf (ws ++ [[]])).length : Int) (i : Int)) true := by
  intro d
  induction d with
  | zero =>
    intro i E hi hE hl hne
    have hlt := (List.getElem?_eq_some_iff.1 hn0).1
    exact lines_end ws hws hz a1 E hE (hne (by omega)) (by omega) hlen (i : Int) (by omega)
  | succ d ih =>
    intro i E hi hE hl hne
    have hi2 : i < (textOf (ws ++ [[]])).length := by omega
    generalize textOf (ws ++ [[]]) = T at *
    have hnl : (nts T).length = T.length := by simp [nts]
    have hw : wrap64 ((i : Int) + 1) = ((i + 1 : Nat) : Int) := by rw [w64 (by omega) (by omega)]; omega
    have hr : rd (nts T) (i : Int) = ((T[i]'hi2).toNat : Int) := by
      rw [rd, Int.toNat_natCast, nts, List.getD_eq_getElem?_getD, List.getElem?_map, List.getElem?_eq_getElem hi2]
      rfl
    refine Ev.step' ?_
    by_cases hx : T[i]'hi2 = 13
    · have h13 : rd (nts T) (i : Int) = 13 := by rw [hr, hx]; rfl
      simp only [crossroadlaw04_CutterLines.l0, if_pos (show (i : Int) < (T.length : Int) by omega), if_pos (show (0 : Int) ≤ (i : Int) by omega), hnl, h13, if_pos (show E.length < 17592186044416 by omega), hw, if_true]
      refine ih (i + 1) (E ++ [(i : Int)]) (by omega) (fun e he => ?_) (by simp only [List.length_append, List.length_cons, List.length_nil]; omega) (fun _ => by simp)
      rcases List.mem_append.1 he with he | he
      · exact hE e he
      · exact ⟨i, List.mem_singleton.1 he, by rw [List.getElem?_eq_getElem hi2, hx]⟩
    · have h13 : ¬ rd (nts T) (i : Int) = 13 := fun h => hx (UInt8.toNat_inj.1 (by rw [hr] at h; show _ = 13; omega))
      simp only [crossroadlaw04_CutterLines.l0, if_pos (show (i : Int) < (T.length : Int) by omega), if_pos (show (0 : Int) ≤ (i : Int) by omega), hnl, if_neg h13, hw]
      refine ih (i + 1) E (by omega) hE (by omega) (fun h => hne ?_)
      by_cases h1 : n0 = i
      · subst h1
        rw [List.getElem?_eq_getElem hi2] at hn0
        exact absurd (Option.some.inj hn0) hx
      · omega
theorem lines_f (a0_0 a0_1 a0_2 a0_3 a0_4 : Int) (a0_5 : Bool) (a0_6 a1 : Int) : Ev (fun k => crossroadlaw04_CutterLines.f k a0_0 a0_1 a0_2 a0_3 a0_4 a0_5 a0_6 a1) true := by
  obtain ⟨mi, hmi, hm6⟩ := mod6_lt a0_0
  obtain ⟨ti, hti, ht16⟩ := and15_lt a0_1
  obtain ⟨tk, htk, hk4⟩ := and3_lt a0_3
  have hs := seedText_f a0_0 a0_1 0 a0_3 0 0 a0_5 mi ti 0 tk 0 0 hmi hti and_zero7 htk and_zero3 and_zero15 hk4 (by decide) (by decide)
  clear hmi hti htk
  have e : seedL mi ti 0 tk 0 a0_5 (wrN 0) = textOf ((lFirst mi ti :: lRest tk a0_5 0 0 0) ++ [[]]) := by
    rw [textOf_app]
    rfl
  have hl := seed_len mi ti 0 tk 0 a0_5 0 hm6 ht16 hk4 (by omega) (by omega) (by omega)
  rw [show seedL mi ti 0 tk 0 a0_5 0 = seedL mi ti 0 tk 0 a0_5 (wrN 0) from rfl, e] at hl
  rw [e] at hs
  obtain ⟨hws, hsz⟩ := seed_fit mi ti tk 0 0 0 a0_5 hm6 ht16 hk4 (by omega) (by omega) (by omega)
  have hn0 : (textOf ((lFirst mi ti :: lRest tk a0_5 0 0 0) ++ [[]]))[(lFirst mi ti).length]? = some 13 := by
    rw [List.cons_append, textOf, List.getElem?_append_right (Nat.le_refl _), Nat.sub_self]
    rfl
  generalize lFirst mi ti :: lRest tk a0_5 0 0 0 = ws at *
  have hz : sizeOf' (ws ++ [[]]) ≤ 1000 := by
    rw [size_mid]
    show sizeOf' ws + (((0 : Nat) : Int) + 2 + 0) ≤ 1000
    omega
  simp only [crossroadlaw04_CutterLines.f]
  refine Ev.bind cut_fit_f ?_
  simp only [if_true]
  refine Ev.bind hs ?_
  simp only [toBA_size, if_pos (show (textOf (ws ++ [[]])).length ≤ 9223372036854775807 by omega), bytesOf_toBA, Option.bind_some, List.length_map]
  exact lines_l0 ws hws hz a1 hl _ hn0 (textOf (ws ++ [[]])).length 0 [] (by omega) (fun e he => by cases he) (Nat.le_refl _) (fun h => absurd h (by omega))
theorem lines_walk (a0_0 a0_1 a0_2 a0_3 a0_4 : Int) (a0_5 : Bool) (a0_6 : Int) (a1 : Int) (w : World) (hG : GlobOK w) :
    Calls Tryd.prog 6 #[.agg #[.int .i64 a0_0, .int .i64 a0_1, .int .i64 a0_2, .int .i64 a0_3, .int .i64 a0_4, .bool a0_5, .int .i64 a0_6], .int .i64 a1] w fun e w' => e = .returned (.bool true) ∧ Below w.heap.size w w' := by
  obtain ⟨K, hK⟩ := ev_get (lines_f a0_0 a0_1 a0_2 a0_3 a0_4 a0_5 a0_6 a1)
  exact crossroadlaw04_CutterLines.calls K a0_0 a0_1 a0_2 a0_3 a0_4 a0_5 a0_6 a1 true w hK hG
end Go.Proofs.YtldaingkcnmaoaaDoor.Pure

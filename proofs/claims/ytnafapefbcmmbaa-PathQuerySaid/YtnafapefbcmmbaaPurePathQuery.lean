/- PathQuery: what stands behind a ? plays no part. No condition. -/
import Derived.Test.YtnafapefbcmmbaaXPatM
import Derived.Test.YtnafapefbcmmbaaX16
set_option linter.unusedVariables false
set_option linter.unusedSimpArgs false
namespace Go.Proofs.Ytnafapefbcmmbaa.Pure
open Go.RowKit Go.Proofs.Ytnafapefbcmmbaa.X Go.Proofs.YtnafapefbcmmbaaW.PrintWords Go.Proofs.YtnafapefbcmmbaaW.PrintLast Go.Proofs.Ytnafapefbcmmbaa.M

theorem query_same (s q : List UInt8) : splitL (s ++ 63 :: q) = splitL s := by
  have e : beforeQ (s ++ 63 :: q) = beforeQ s := by
    rw [beforeQ, beforeQ, headD_words, headD_words]
    induction s with
    | nil => simp
    | cons c r ih =>
      by_cases h : (c.toNat : Int) = 63
      · simp [h]
      · simp [h, ih]
  rw [splitL, e]; rfl
theorem query_l0 (l : List (List UInt8)) (hl : l.length ≤ 100000) (post : List (List UInt8)) : ∀ pre : List (List UInt8), l = pre ++ post →
    Ev (fun k => crossroadlaw06_PathQuery.l0 k (l.map toBA) (l.map toBA) (l.length : Int) (pre.length : Int)) true := by
  induction post with
  | nil =>
    intro pre h
    have hp : pre.length = l.length := by subst h; simp
    refine Ev.step' ?_
    simp only [crossroadlaw06_PathQuery.l0, if_neg (show ¬ (pre.length : Int) < (l.length : Int) by omega)]
    exact Ev.now true
  | cons x r ih =>
    intro pre h
    have hp : pre.length < l.length := by subst h; simp
    have hw : wrap64 ((pre.length : Int) + 1) = ((pre ++ [x]).length : Int) := by rw [w64 (by omega) (by omega)]; simp
    refine Ev.step' ?_
    simp only [crossroadlaw06_PathQuery.l0, if_pos (show (pre.length : Int) < (l.length : Int) by omega), if_pos (show (0 : Int) ≤ (pre.length : Int) by omega), List.length_map, if_true, hw]
    exact ih (pre ++ [x]) (by simp [h])
theorem splitT_len (t : List UInt8) : (splitT t).1.length ≤ t.length + 1 := by
  have tl (l : List (List UInt8)) : ∀ r, turnsL l = some r → r.length = l.length := by
    induction l with
    | nil => intro r h; simp [turnsL] at h; subst h; rfl
    | cons w q ih =>
      intro r h
      simp only [turnsL] at h
      split at h
      · cases h
      · obtain ⟨t, ht, rfl⟩ := Option.map_eq_some_iff.1 h
        simp [ih t ht]
  unfold splitT
  split
  · simp
  · split
    · simp
    · split
      · simp
      · split
        · rename_i r hr
          have h1 := tl _ r hr
          have h2 := wordsL_count_le 47 t.tail
          simp at h2 ⊢; omega
        · simp
theorem beforeQ_len (s : List UInt8) : (beforeQ s).length ≤ s.length := by
  rw [beforeQ, headD_words]
  exact (List.takeWhile_sublist _).length_le
theorem PathQuery : crossroadlaw06_PathQuery.Pure := by
  intro a0 a1 s0 s1
  obtain ⟨s, rfl⟩ := exBA a0
  obtain ⟨q, rfl⟩ := exBA a1
  refine Ev.rounds (g := fun k => crossroadlaw06_PathQuery.f k (toBA s) (toBA q)) ?_
  have out : Ev (fun k => crossroadlaw06_PathQuery.j0 k (toBA s) (toBA q) true) true := by
    refine Ev.step' ?_
    simp only [crossroadlaw06_PathQuery.j0, if_true]
    exact Ev.now true
  simp only [crossroadlaw06_PathQuery.f, light_f, Option.bind_some]
  refine Ev.bind fit_f ?_
  simp only [if_true]
  by_cases hs : s.length ≤ 600
  · simp only [decide_eq_true hs, if_true]
    by_cases hq : q.length ≤ 600
    · simp only [decide_eq_true hq, Bool.not_true]
      refine Ev.step' ?_
      have s63 : (⟨#[63]⟩ : ByteArray) = toBA [63] := rfl
      simp only [crossroadlaw06_PathQuery.j0, Bool.false_eq_true, if_false, s63, toBA_append, toBA_size, List.length_append, List.length_singleton, if_pos (show s.length + 1 ≤ 9223372036854775807 by omega), if_pos (show s.length + 1 + q.length ≤ 9223372036854775807 by omega)]
      refine Ev.bind (split_f s (by omega)) ?_
      refine Ev.bind (split_f (s ++ [63] ++ q) (by simp; omega)) ?_
      rw [show s ++ [63] ++ q = s ++ 63 :: q by simp, query_same]
      have e1 : ((segsT (splitL s)).2 != (segsT (splitL s)).2) = false := by simp
      have e2 : (((segsT (splitL s)).1.length : Int) != ((segsT (splitL s)).1.length : Int)) = false := by simp
      simp only [e1, e2, Bool.false_eq_true, if_false]
      refine Ev.step' ?_
      simp only [crossroadlaw06_PathQuery.j1, Bool.false_eq_true, if_false]
      have h1 := splitT_len (beforeQ s)
      have h2 := beforeQ_len s
      have key := query_l0 (splitL s).1 (by simp only [splitL]; omega) (splitL s).1 [] rfl
      simpa [segsT] using key
    · simp only [decide_eq_false hq, Bool.not_false]
      exact out
  · simp only [decide_eq_false hs, Bool.false_eq_true, if_false]
    exact out
end Go.Proofs.Ytnafapefbcmmbaa.Pure

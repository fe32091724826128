/- TableAny: any text is a table whose routes stand beside one another, or has an error. No condition. -/
import Derived.Test.YtidkhbkndbnnjaaDoorXRouteF
import Derived.Test.YtidkhbkndbnnjaaDoorX22
set_option linter.unusedVariables false
set_option linter.unusedSimpArgs false
namespace Go.Proofs.YtidkhbkndbnnjaaDoor.Pure
open Go.RowKit Go.Proofs.YtidkhbkndbnnjaaDoor.X Go.Proofs.YtidkhbkndbnnjaaDoorW.PrintWords Go.Proofs.YtidkhbkndbnnjaaDoorW.PrintLast Go.Proofs.YtidkhbkndbnnjaaDoor.M

theorem fields_two (l : List UInt8) : ∀ cur : List UInt8, (((wordsGo 32 cur l).filter fun w => !w.isEmpty).map fun w => w.length + 1).sum ≤ cur.length + l.length + 1 := by
  induction l with
  | nil =>
    intro cur
    simp only [wordsGo]
    cases cur with
    | nil => simp
    | cons c q => simp
  | cons c r ih =>
    intro cur
    simp only [wordsGo]
    split
    · have := ih []
      cases cur with
      | nil => simp at this ⊢; omega
      | cons d q => simp at this ⊢; omega
    · have := ih (cur ++ [c]); simp at this ⊢; omega
theorem lines_sum (l : List UInt8) : ∀ cur : List UInt8, ((wordsGo 10 cur l).map fun w => w.length + 1).sum ≤ cur.length + l.length + 1 := by
  induction l with
  | nil => intro cur; simp [wordsGo]
  | cons c r ih =>
    intro cur
    simp only [wordsGo]
    split
    · have := ih []; simp at this ⊢; omega
    · have := ih (cur ++ [c]); simp at this ⊢; omega
theorem print_sum (l : List R3) : (printL l).length = (l.map fun r => r.m.length + r.p.length + r.h.length + 3).sum := by
  induction l with
  | nil => rfl
  | cons r q ih => rw [show printL (r :: q) = lineL r ++ printL q from rfl, List.length_append, ih]; simp [lineL]; omega
theorem rows_sum (ls : List (List UInt8)) : ∀ rs, rowsGo ls = some rs → (rs.map fun r => r.m.length + r.p.length + r.h.length + 3).sum ≤ (ls.map fun w => w.length + 1).sum := by
  induction ls with
  | nil => intro rs h; simp [rowsGo] at h; subst h; simp
  | cons l q ih =>
    intro rs h
    have hf : ((fieldsL l).map fun w => w.length + 1).sum ≤ l.length + 1 := by have := fields_two l []; simpa [fieldsL, wordsL] using this
    rw [rowsGo] at h
    generalize fieldsL l = f at h hf
    match f, h, hf with
    | [], h, hf => have := ih rs h; simp; omega
    | [a], h, hf => simp at h
    | [a, b], h, hf => simp at h
    | [a, b, c], h, hf =>
      obtain ⟨q', hq, rfl⟩ := Option.map_eq_some_iff.1 h
      have := ih q' hq
      simp at hf ⊢
      omega
    | a :: b :: c :: d :: q', h, hf => simp at h
theorem any_print (s : List UInt8) (hs : s.length ≤ 3000) : (printL (parseL s).1).length ≤ 3001 := by
  rw [parseL, parse_rows]
  cases hg : rowsGo (wordsL 10 s) with
  | none => simp [printL]
  | some rs =>
    simp only [List.nil_append]
    split
    · have h1 := rows_sum _ rs hg
      have h2 := lines_sum s []
      rw [print_sum]
      rw [wordsL] at h1
      simp only [List.length_nil] at h2
      show (rs.map _).sum ≤ _
      omega
    · simp [printL]
theorem TableAny : crossroadlaw07_TableAny.Pure := by
  intro a0 s0
  obtain ⟨s, rfl⟩ := exBA a0
  simp only [toBA_size] at s0
  refine Ev.rounds (g := fun k => crossroadlaw07_TableAny.f k (toBA s)) ?_
  simp only [crossroadlaw07_TableAny.f, toBA_size]
  refine Ev.bind fit_f ?_
  simp only [if_true]
  by_cases h3 : s.length > 3000
  · simp only [if_pos (show (s.length : Int) > 3000 by omega)]; exact Ev.now true
  · simp only [if_neg (show ¬ (s.length : Int) > 3000 by omega)]
    refine Ev.bind (parse_f s (by omega)) ?_
    have hpl := any_print s (by omega)
    have hsm := parse_small s (by omega)
    simp only [parT, List.length_map]
    rcases parse_result s with ⟨h0, hc⟩ | ⟨h1, h2⟩
    · have h24 := (check_zero hc).2
      simp only [h0, if_true]
      refine Ev.bind (print_f (parseL s).1 (by omega) hsm) ?_
      refine Ev.bind (parse_f (printL (parseL s).1) (by omega)) ?_
      rw [parse_print _ hc]
      refine Ev.bind (check_f (parseL s).1 (by omega) hsm) ?_
      rw [hc]
      simp only [parT, if_true]
      refine Ev.bind (same_f (parseL s).1 (parseL s).1 (by omega)) ?_
      simp only [decide_true, if_true]
      exact Ev.const (by simp; omega)
    · have hne : ¬ (parseL s).2 = 0 := by omega
      simp only [if_neg hne, h1, List.length_nil, Int.natCast_zero, if_true]
      rcases h2 with h2 | h2 | h2
      · simp only [h2, if_true]; exact Ev.now true
      · simp only [h2, if_neg (show ¬ (2 : Int) = 1 by omega), if_true]; exact Ev.now true
      · simp only [h2, if_neg (show ¬ (3 : Int) = 1 by omega), if_neg (show ¬ (3 : Int) = 2 by omega)]; exact Ev.const (by simp)
end Go.Proofs.YtidkhbkndbnnjaaDoor.Pure

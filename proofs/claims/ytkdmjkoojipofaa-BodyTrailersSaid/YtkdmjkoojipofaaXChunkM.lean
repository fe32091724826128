/- A body in chunks: what a line, a chunk's bytes, and the end turn it into. Plain lists. -/
import Derived.Test.YtkdmjkoojipofaaXBodyM
set_option linter.unusedVariables false
set_option linter.unusedSimpArgs false
namespace Go.Proofs.Ytkdmjkoojipofaa.M
open Go.RowKit Go.Proofs.YtkdmjkoojipofaaW.PrintWords Go.Proofs.Ytkdmjkoojipofaa.X

theorem crAt_snoc (l : List UInt8) (a : UInt8) : crAt (l ++ [a]) = decide (l.getLast? = some 13) := by
  unfold crAt
  rw [List.getLast?_eq_getElem?]
  cases l with
  | nil => simp
  | cons x r =>
    have e : (x :: r ++ [a]).length - 2 = (x :: r).length - 1 := by simp
    rw [e, List.getElem?_append_left (by simp)]
    have h2 : 2 ≤ (x :: r ++ [a]).length := by simp
    simp only [h2, true_and]
def lnB (st : Int) (d cur : List UInt8) : BodyS := { ch := true, left := 0, st := st, line := cur, data := d, status := 0, done := false }
def Clean (l : List UInt8) : Prop := ∀ c ∈ l, c.toNat ≠ 13 ∧ c.toNat ≠ 10
theorem clean_last {l : List UInt8} (h : Clean l) : decide (l.getLast? = some 13) = false := by
  refine decide_eq_false fun e => ?_
  have := h 13 (List.mem_of_getLast? e)
  exact this.1 rfl
theorem ln_step (st : Int) (hst : st ≠ 1) (d cur : List UInt8) (c : UInt8) (hc : c.toNat ≠ 10) (hcur : Clean cur) (hl : cur.length + 1 ≤ 200) : stepB (lnB st d cur) c = lnB st d (cur ++ [c]) := by
  have h1 : ¬ (lnB st d cur).done = true := by simp [lnB]
  have h2 : ¬ (lnB st d cur).ch = false := by simp [lnB]
  have h3 : ¬ (lnB st d cur).st = 1 := hst
  have h4 : ¬ ({ lnB st d cur with line := (lnB st d cur).line ++ [c] } : BodyS).line.length > 200 := by show ¬ (cur ++ [c]).length > 200; simp; omega
  have h5 : ¬ crAt ({ lnB st d cur with line := (lnB st d cur).line ++ [c] } : BodyS).line = true := by
    show ¬ crAt (cur ++ [c]) = true
    rw [crAt_snoc, clean_last hcur]; decide
  rw [stepB, if_neg h1, if_neg h2, if_neg h3, lineL, if_neg h4, if_pos hc, if_neg h5]
  rfl
theorem ln_end (st : Int) (hst : st ≠ 1) (d cur : List UInt8) (hl : cur.length + 2 ≤ 200) : stepB (lnB st d (cur ++ [13])) 10 = wholeL (lnB st d []) cur := by
  have h1 : ¬ (lnB st d (cur ++ [13])).done = true := by simp [lnB]
  have h2 : ¬ (lnB st d (cur ++ [13])).ch = false := by simp [lnB]
  have h3 : ¬ (lnB st d (cur ++ [13])).st = 1 := hst
  have h4 : ¬ ({ lnB st d (cur ++ [13]) with line := (lnB st d (cur ++ [13])).line ++ [10] } : BodyS).line.length > 200 := by show ¬ ((cur ++ [13]) ++ [10]).length > 200; simp; omega
  have h6 : ¬ (10 : UInt8).toNat ≠ 10 := by decide
  have h5 : crAt ({ lnB st d (cur ++ [13]) with line := (lnB st d (cur ++ [13])).line ++ [10] } : BodyS).line = true := by
    show crAt ((cur ++ [13]) ++ [10]) = true
    rw [crAt_snoc]; simp
  have e : ((cur ++ [13]) ++ [10] : List UInt8).take (((cur ++ [13]) ++ [10]).length - 2) = cur := by simp
  rw [stepB, if_neg h1, if_neg h2, if_neg h3, lineL, if_neg h4, if_neg h6, if_pos h5]
  show wholeL (lnB st d []) (((cur ++ [13]) ++ [10]).take (((cur ++ [13]) ++ [10]).length - 2)) = _
  rw [e]
theorem run_cons (b : BodyS) (c : UInt8) (s : List UInt8) (h : b.done = false) : runB b (c :: s) = ((runB (stepB b c) s).1, (runB (stepB b c) s).2 + 1) := by
  rw [runB, if_neg (by rw [h]; decide)]
theorem line_run (st : Int) (hst : st ≠ 1) (d : List UInt8) (rest w : List UInt8) : ∀ cur : List UInt8, Clean cur → Clean w → cur.length + w.length + 2 ≤ 200 →
    runB (lnB st d cur) (w ++ 13 :: 10 :: rest) = ((runB (wholeL (lnB st d []) (cur ++ w)) rest).1, (runB (wholeL (lnB st d []) (cur ++ w)) rest).2 + (w.length + 2)) := by
  induction w with
  | nil =>
    intro cur h1 h2 hl
    simp only [List.length_nil] at hl
    rw [List.nil_append, run_cons _ _ _ rfl, ln_step st hst d cur 13 (by decide) h1 (by omega), run_cons _ _ _ rfl, ln_end st hst d cur (by omega), List.append_nil]
    rfl
  | cons c r ih =>
    intro cur h1 h2 hl
    simp only [List.length_cons] at hl
    have hc := h2 c (by simp)
    have hcur : Clean (cur ++ [c]) := fun x hx => by
      rcases List.mem_append.1 hx with hx | hx
      · exact h1 x hx
      · rw [List.mem_singleton.1 hx]; exact hc
    rw [List.cons_append, run_cons _ _ _ rfl, ln_step st hst d cur c hc.2 h1 (by omega), ih (cur ++ [c]) hcur (fun x hx => h2 x (by simp [hx])) (by simp; omega)]
    simp only [List.append_assoc, List.singleton_append, List.length_cons]
    exact Prod.ext rfl (by show _ + 1 = _; omega)
/-- A chunk of m more bytes. -/
def dtB (m : Nat) (d : List UInt8) : BodyS := { ch := true, left := (m : Int), st := if m = 0 then 2 else 1, line := [], data := d, status := 0, done := false }
theorem dt_step (m : Nat) (d : List UInt8) (c : UInt8) (hd : d.length < 600) (hm : m < 100000) : stepB (dtB (m + 1) d) c = dtB m (d ++ [c]) := by
  have h1 : ¬ (dtB (m + 1) d).done = true := by simp [dtB]
  have h2 : ¬ (dtB (m + 1) d).ch = false := by simp [dtB]
  have h3 : (dtB (m + 1) d).st = 1 := by simp [dtB]
  have h4 : ¬ (dtB (m + 1) d).data.length = 600 := by show ¬ d.length = 600; omega
  have hw : wrap64 ((dtB (m + 1) d).left - 1) = (m : Int) := by
    show wrap64 (((m + 1 : Nat) : Int) - 1) = _
    rw [w64 (by omega) (by omega)]; omega
  have ht : takeB (dtB (m + 1) d) c = { dtB (m + 1) d with data := d ++ [c], left := (m : Int) } := by rw [takeB, if_neg h4, hw]; rfl
  rw [stepB, if_neg h1, if_neg h2, if_pos h3, ht]
  by_cases h0 : m = 0
  · subst h0; rfl
  · rw [if_neg (show ¬ ((m : Nat) : Int) = 0 by omega)]
    simp [dtB, h0]
theorem data_run (rest p : List UInt8) : ∀ d : List UInt8, d.length + p.length ≤ 600 → runB (dtB p.length d) (p ++ rest) = ((runB (lnB 2 (d ++ p) []) rest).1, (runB (lnB 2 (d ++ p) []) rest).2 + p.length) := by
  induction p with
  | nil => intro d _; rw [List.append_nil]; rfl
  | cons c r ih =>
    intro d h
    simp only [List.length_cons] at h
    rw [List.cons_append, run_cons _ _ _ rfl, List.length_cons, dt_step r.length d c (by omega) (by omega), ih (d ++ [c]) (by simp; omega)]
    simp only [List.append_assoc, List.singleton_append]
    exact Prod.ext rfl (by show _ + 1 = _; omega)
theorem run_done (b : BodyS) (s : List UInt8) (h : b.done = true) : runB b s = (b, 0) := by
  cases s with
  | nil => rfl
  | cons c r => rw [runB, if_pos h]
theorem data_over (rest p : List UInt8) : ∀ d : List UInt8, d.length ≤ 600 → d.length + p.length > 600 → p.length < 100000 → (runB (dtB p.length d) (p ++ rest)).1.done = true ∧ (runB (dtB p.length d) (p ++ rest)).1.status = 413 := by
  induction p with
  | nil => intro d h1 h2; simp at h2; omega
  | cons c r ih =>
    intro d h1 h2 h3
    simp only [List.length_cons] at h2 h3
    rw [List.cons_append, run_cons _ _ _ rfl, List.length_cons]
    by_cases h6 : d.length = 600
    · have e : stepB (dtB (r.length + 1) d) c = { dtB (r.length + 1) d with done := true, status := 413 } := by
        have ht : takeB (dtB (r.length + 1) d) c = { dtB (r.length + 1) d with done := true, status := 413 } := by rw [takeB, if_pos (show (dtB (r.length + 1) d).data.length = 600 from h6)]
        rw [stepB, if_neg (by simp [dtB]), if_neg (by simp [dtB]), if_pos (by simp [dtB]), ht]
        exact if_neg (show ¬ ((r.length + 1 : Nat) : Int) = 0 by omega)
      rw [e, run_done _ _ rfl]
      exact ⟨rfl, rfl⟩
    · rw [dt_step r.length d c (by omega) (by omega)]
      exact ih (d ++ [c]) (by simp; omega) (by simp; omega) (by omega)
theorem whole_size (d w : List UInt8) (n : Nat) (hn : numL 16 (firstW w) = ((n : Int), true)) (h0 : n ≠ 0) (h6 : n ≤ 600) : wholeL (lnB 0 d []) w = dtB n d := by
  rw [wholeL, if_pos (show (lnB 0 d []).st = 0 from rfl), hn]
  show sizeB (lnB 0 d []) (n : Int) true = _
  rw [sizeB, if_neg (by decide), if_neg (by omega), if_neg (by omega)]
  simp [lnB, dtB, h0]
theorem whole_big (d w : List UInt8) (n : Nat) (hn : numL 16 (firstW w) = ((n : Int), true)) (h6 : n > 600) : wholeL (lnB 0 d []) w = failB (lnB 0 d []) 413 := by
  rw [wholeL, if_pos (show (lnB 0 d []).st = 0 from rfl), hn]
  show sizeB (lnB 0 d []) (n : Int) true = _
  rw [sizeB, if_neg (by decide), if_neg (by omega), if_pos (by omega)]
/-- A chunk that may be. -/
theorem chunk_run (d w p rest : List UInt8) (hw : Clean w) (hwl : w.length ≤ 100) (hn : numL 16 (firstW w) = ((p.length : Int), true)) (hp : p ≠ []) (h6 : d.length + p.length ≤ 600) :
    runB (lnB 0 d []) (w ++ 13 :: 10 :: (p ++ 13 :: 10 :: rest)) = ((runB (lnB 0 (d ++ p) []) rest).1, (runB (lnB 0 (d ++ p) []) rest).2 + (w.length + 2 + p.length + 2)) := by
  have h0 : p.length ≠ 0 := fun e => hp (List.eq_nil_of_length_eq_zero e)
  have e2 : wholeL (lnB 2 (d ++ p) []) [] = lnB 0 (d ++ p) [] := rfl
  have h2 := line_run 2 (by decide) (d ++ p) rest [] [] (fun _ h => by cases h) (fun _ h => by cases h) (by decide)
  rw [List.nil_append, List.nil_append, e2] at h2
  rw [line_run 0 (by decide) d _ w [] (fun _ h => by cases h) hw (by simp; omega), List.nil_append, whole_size d w _ hn h0 (by omega), data_run _ p d h6, h2]
  exact Prod.ext rfl (by show _ + _ + _ + _ = _; simp only [List.length_nil]; omega)
/-- A chunk that is too great, or too much in all. -/
theorem chunk_over (d w p rest : List UInt8) (hw : Clean w) (hwl : w.length ≤ 100) (hn : numL 16 (firstW w) = ((p.length : Int), true)) (hd : d.length ≤ 600) (h6 : d.length + p.length > 600) (hp : p.length < 100000) :
    (runB (lnB 0 d []) (w ++ 13 :: 10 :: (p ++ rest))).1.done = true ∧ (runB (lnB 0 d []) (w ++ 13 :: 10 :: (p ++ rest))).1.status = 413 := by
  rw [line_run 0 (by decide) d _ w [] (fun _ h => by cases h) hw (by simp; omega), List.nil_append]
  by_cases h : p.length > 600
  · rw [whole_big d w _ hn h, run_done _ _ rfl]; exact ⟨rfl, rfl⟩
  · rw [whole_size d w _ hn (by omega) (by omega)]; exact data_over rest p d hd h6 hp
/-- The end of the chunks: a size of nought, then lines, up to an empty one. -/
theorem nought_run (d rest : List UInt8) : runB (lnB 0 d []) (48 :: 13 :: 10 :: rest) = ((runB (lnB 3 d []) rest).1, (runB (lnB 3 d []) rest).2 + 3) := by
  have h := line_run 0 (by decide) d rest [48] [] (fun _ h => by cases h) (fun c h => by rw [List.mem_singleton.1 h]; decide) (by decide)
  have e : wholeL (lnB 0 d []) ([] ++ [48]) = lnB 3 d [] := by
    rw [wholeL, if_pos (show (lnB 0 d []).st = 0 from rfl)]
    rw [show numL 16 (firstW ([] ++ [48])) = (0, true) by decide +kernel]
    rfl
  rw [e] at h
  exact h
theorem trailer_run (d x rest : List UInt8) (hx : Clean x) (hl : x.length ≤ 198) (h0 : x ≠ []) : runB (lnB 3 d []) (x ++ 13 :: 10 :: rest) = ((runB (lnB 3 d []) rest).1, (runB (lnB 3 d []) rest).2 + (x.length + 2)) := by
  have h := line_run 3 (by decide) d rest x [] (fun _ h => by cases h) hx (by simp; omega)
  have e : wholeL (lnB 3 d []) ([] ++ x) = lnB 3 d [] := by
    rw [wholeL, if_neg (by show ¬ (3 : Int) = 0; decide), if_neg (by show ¬ (3 : Int) = 2; decide), List.nil_append, show x.isEmpty = false by cases x with | nil => exact absurd rfl h0 | cons _ _ => rfl]
    rfl
  rw [e] at h
  exact h
theorem end_run (d rest : List UInt8) : runB (lnB 3 d []) (13 :: 10 :: rest) = ({ lnB 3 d [] with done := true }, 2) := by
  have h := line_run 3 (by decide) d rest [] [] (fun _ h => by cases h) (fun _ h => by cases h) (by decide)
  have e : wholeL (lnB 3 d []) ([] ++ []) = { lnB 3 d [] with done := true } := rfl
  rw [e, run_done { lnB 3 d [] with done := true } rest rfl] at h
  exact h
theorem newB_chunks : newB (-1) = lnB 0 [] [] := rfl
end Go.Proofs.Ytkdmjkoojipofaa.M

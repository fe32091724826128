/- BodyLengths: a body of so many bytes is whole behind them. No condition. -/
import Derived.Test.YtkdmjkoojipofaaXBodyM
import Derived.Test.YtkdmjkoojipofaaXBits
import Derived.Test.YtkdmjkoojipofaaX10
set_option linter.unusedVariables false
set_option linter.unusedSimpArgs false
namespace Go.Proofs.Ytkdmjkoojipofaa.Pure
open Go.RowKit Go.Proofs.Ytkdmjkoojipofaa.X Go.Proofs.YtkdmjkoojipofaaW.PrintWords Go.Proofs.YtkdmjkoojipofaaW.PrintLast Go.Proofs.Ytkdmjkoojipofaa.M

/-- A body of m more bytes. -/
def plainB (m : Nat) (d : List UInt8) : BodyS := { ch := false, left := (m : Int), st := 0, line := [], data := d, status := 0, done := decide (m = 0) }
theorem plain_new (m : Nat) : newB (m : Int) = plainB m [] := by
  have h1 : decide ((m : Int) < 0) = false := decide_eq_false (by omega)
  have h2 : (if (m : Int) < 0 then (0 : Int) else (m : Int)) = (m : Int) := if_neg (by omega)
  have h3 : ((m : Int) == 0) = decide (m = 0) := by
    by_cases h : m = 0
    · subst h; rfl
    · rw [decide_eq_false h]; exact beq_eq_false_iff_ne.2 (by omega)
  simp only [newB, plainB, h1, h2, h3]
theorem plain_step (m : Nat) (d : List UInt8) (c : UInt8) (h : d.length + (m + 1) ≤ 600) : stepB (plainB (m + 1) d) c = plainB m (d ++ [c]) := by
  have h1 : ¬ (plainB (m + 1) d).done = true := by simp [plainB]
  have h2 : (plainB (m + 1) d).ch = false := rfl
  have h3 : ¬ (plainB (m + 1) d).data.length = 600 := by show ¬ d.length = 600; omega
  have hw : wrap64 (((m + 1 : Nat) : Int) - 1) = (m : Int) := by rw [w64 (by omega) (by omega)]; omega
  have h4 : X.takeB (plainB (m + 1) d) c = { plainB (m + 1) d with data := d ++ [c], left := (m : Int) } := by
    unfold X.takeB
    rw [if_neg h3]
    simp only [plainB, hw]
  have h5 : ((m : Int) == 0) = decide (m = 0) := by
    by_cases h : m = 0
    · subst h; rfl
    · rw [decide_eq_false h]; exact beq_eq_false_iff_ne.2 (by omega)
  rw [stepB, if_neg h1, if_pos h2, h4]
  simp [plainB, h5]
theorem plain_run (s : List UInt8) : ∀ (m : Nat) (d : List UInt8), d.length + m ≤ 600 → runB (plainB m d) s = (plainB (m - min m s.length) (d ++ s.take m), min m s.length) := by
  induction s with
  | nil => intro m d h; simp [runB]
  | cons c r ih =>
    intro m d h
    cases m with
    | zero => rw [runB, if_pos (by simp [plainB])]; simp
    | succ m =>
      rw [runB, if_neg (by simp [plainB]), plain_step m d c h, ih m (d ++ [c]) (by simp; omega)]
      simp only [List.length_cons, List.take_succ_cons, List.append_assoc, List.singleton_append]
      have e1 : min (m + 1) (r.length + 1) = min m r.length + 1 := by omega
      have e2 : m + 1 - (min m r.length + 1) = m - min m r.length := by omega
      rw [e1, e2]
theorem BodyLengths : crossroadlaw03_BodyLengths.Pure := by
  intro a0 a1 _ s0
  obtain ⟨s, rfl⟩ := exBA a1
  simp only [toBA_size] at s0
  refine Ev.rounds (g := fun k => crossroadlaw03_BodyLengths.f k a0 (toBA s)) ?_
  simp only [crossroadlaw03_BodyLengths.f, toBA_size]
  refine Ev.bind fit_f ?_
  simp only [if_true]
  by_cases h2 : s.length > 2000
  · simp only [if_pos (show (s.length : Int) > 2000 by omega)]; exact Ev.now true
  · simp only [if_neg (show ¬ (s.length : Int) > 2000 by omega)]
    obtain ⟨m, hm, hm6⟩ : ∃ m : Nat, Int.tmod (bits .and .i64 a0 65535) 601 = (m : Int) ∧ m ≤ 600 := by
      rw [i64_and65535, Int.tmod_eq_emod_of_nonneg (by omega)]
      exact ⟨(a0 % 65536 % 601).toNat, by omega, by omega⟩
    rw [hm]
    refine Ev.bind (lawFeed_f (m : Int) s (by omega)) ?_
    rw [plain_new, plain_run s m [] (by simp; omega)]
    have e : nts ([] ++ s.take m) = (s.take m).map fun b => (b.toNat : Int) := rfl
    have hmn : ((min m s.length : Nat) : Int) = mn (m : Int) (s.length : Int) := by unfold mn; split <;> omega
    have ht : s.take (min m s.length) = s.take m := by
      rcases Nat.le_total m s.length with hle | hle
      · rw [Nat.min_eq_left hle]
      · rw [Nat.min_eq_right hle, List.take_of_length_le (Nat.le_refl _), List.take_of_length_le hle]
    have hd : decide (m - min m s.length = 0) = decide ((s.length : Int) ≥ (m : Int)) := by
      by_cases hle : m ≤ s.length
      · rw [decide_eq_true (show m - min m s.length = 0 by omega), decide_eq_true (show (s.length : Int) ≥ (m : Int) by omega)]
      · rw [decide_eq_false (show ¬ m - min m s.length = 0 by omega), decide_eq_false (show ¬ (s.length : Int) ≥ (m : Int) by omega)]
    simp only [body_Body_Status.f, body_Body_Data.f, body_Body_Done.f, Option.bind_some]
    have e1 : (plainB (m - min m s.length) ([] ++ s.take m)).status = 0 := rfl
    have e2 : strOfNums (nts (plainB (m - min m s.length) ([] ++ s.take m)).data) = toBA (s.take m) := by
      show strOfNums (nts ([] ++ s.take m)) = _
      rw [e, strOfNums_nats]
    have e3 : (plainB (m - min m s.length) ([] ++ s.take m)).done = decide ((s.length : Int) ≥ (m : Int)) := hd
    simp only [e1, e2, e3, if_true, if_pos hmn, if_pos (show (0 : Int) ≤ ((min m s.length : Nat) : Int) by omega), if_pos (show ((min m s.length : Nat) : Int) ≤ (s.length : Int) by omega), toBA_extract, toBA_toList, Int.toNat_natCast, List.drop_zero, Nat.sub_zero, ht]
    exact Ev.const (by simp)
end Go.Proofs.Ytkdmjkoojipofaa.Pure

/- AsciiJoins: tokens put together are a token; a text with one sign that may not be is none; small letters change nothing of it. No condition. -/
import Derived.Test.YtlkknhojfhbopaaXFit01
import Derived.Test.YtlkknhojfhbopaaXLowerFacts
import Derived.Test.YtlkknhojfhbopaaX11
set_option linter.unusedVariables false
set_option linter.unusedSimpArgs false
namespace Go.Proofs.Ytlkknhojfhbopaa.Pure
open Go.RowKit Go.Proofs.Ytlkknhojfhbopaa.X Go.Proofs.YtlkknhojfhbopaaW.PrintWords Go.Proofs.YtlkknhojfhbopaaW.PrintLast Go.Proofs.Ytlkknhojfhbopaa.M

theorem tok_all (l : List UInt8) : l.all markB = (tokenL l || l.isEmpty) := by
  cases l with
  | nil => rfl
  | cons c r => simp [tokenL]
theorem tok_join (a b : List UInt8) (c : UInt8) : tokenL (a ++ [c] ++ b) = ((tokenL a || a.isEmpty) && tokenL [c] && (tokenL b || b.isEmpty)) := by
  rw [← tok_all, ← tok_all]
  cases a <;> simp [tokenL, Bool.and_assoc]
theorem tok_app (a b : List UInt8) (ha : tokenL a = true) (hb : tokenL b = true) : tokenL (a ++ b) = true := by
  simp only [tokenL, Bool.and_eq_true, List.all_append] at *
  refine ⟨⟨ha.1, hb.1⟩, ?_⟩
  cases a with
  | nil => simp at ha
  | cons => rfl
theorem aj_j1 (a b : List UInt8) (c : UInt8) (ha : a.length ≤ 1000) (hb : b.length ≤ 1000) : Ev (fun k => crossroadlaw01_AsciiJoins.j1 k (toBA a) (toBA b) (c.toNat : Int) (tokenL a && tokenL b)) true := by
  obtain ⟨K1, h1⟩ := token_f a (by omega)
  obtain ⟨K2, h2⟩ := token_f b (by omega)
  obtain ⟨K3, h3⟩ := token_f [c] (by simp)
  obtain ⟨K4, h4⟩ := token_f (a ++ b) (by simp; omega)
  obtain ⟨K5, h5⟩ := token_f (a ++ [c] ++ b) (by simp; omega)
  obtain ⟨K6, h6⟩ := token_f (lowerL a) (by rw [lowerL_length]; omega)
  refine ⟨K1 + K2 + K3 + K4 + K5 + K6 + 1, fun k hk => ?_⟩
  obtain ⟨m, rfl⟩ : ∃ m, k = m + 1 := ⟨k - 1, by omega⟩
  have e1 := h1 m (by omega)
  have e2 := h2 m (by omega)
  have e3 := h3 m (by omega)
  have e4 := h4 m (by omega)
  have e5 := h5 m (by omega)
  have e6 := h6 m (by omega)
  have s1 : a.length + b.length ≤ 9223372036854775807 := by omega
  have s2 : a.length + [c].length ≤ 9223372036854775807 := by simp; omega
  have s3 : (a ++ [c]).length + b.length ≤ 9223372036854775807 := by simp; omega
  rw [token_lower] at e6
  rw [tok_join] at e5
  have hab := tok_app a b
  simp only [crossroadlaw01_AsciiJoins.j1, Option.bind_some, strOfNums_one, toBA_append, toBA_size, toBA_toList, if_pos s1, if_pos s2, if_pos s3, e1, e2, e3, e4, e5, e6, lower_f a (by omega)]
  have ea : (a = []) ↔ a.isEmpty = true := by cases a <;> simp
  simp only [ea]
  have xa : a.isEmpty = true → tokenL a = false := by intro h; rw [ea.2 h]; rfl
  have xb : b.isEmpty = true → tokenL b = false := by cases b <;> simp [tokenL]
  revert hab xa xb
  generalize tokenL a = A
  generalize tokenL b = B
  generalize tokenL [c] = C
  generalize tokenL (a ++ b) = AB
  generalize a.isEmpty = E
  generalize b.isEmpty = F
  revert A B C AB E F
  decide
theorem AsciiJoins : crossroadlaw01_AsciiJoins.Pure := by
  intro s t c hs ht hc
  obtain ⟨a, rfl⟩ := exBA s
  obtain ⟨b, rfl⟩ := exBA t
  obtain ⟨c, rfl⟩ : ∃ b : UInt8, (b.toNat : Int) = c := by
    have := bounds_u8 hc
    exact u8_of_int c this.1 this.2
  refine Ev.rounds (Ev.bind fit_f ?_)
  simp only [if_true, crossroadlaw01_light.f, Option.bind_some, toBA_size]
  have jt : Ev (fun k => crossroadlaw01_AsciiJoins.j0 k (toBA a) (toBA b) (c.toNat : Int) true) true := by
    refine Ev.step' ?_
    simp only [crossroadlaw01_AsciiJoins.j0, if_true]
    exact Ev.now _
  by_cases ha : (a.length : Int) ≤ 1000
  · by_cases hb : (b.length : Int) ≤ 1000
    · simp only [decide_eq_true ha, decide_eq_true hb, if_true, Bool.not_true]
      refine Ev.step' ?_
      simp only [crossroadlaw01_AsciiJoins.j0, Bool.false_eq_true, if_false]
      refine Ev.bind (token_f a (by omega)) ?_
      have j := aj_j1 a b c (by omega) (by omega)
      cases hA : tokenL a with
      | true =>
        simp only [if_true]
        refine Ev.bind (token_f b (by omega)) ?_
        rw [hA, Bool.true_and] at j
        exact j
      | false =>
        rw [hA, Bool.false_and] at j
        simpa using j
    · simp only [decide_eq_true ha, decide_eq_false hb, if_true, Bool.not_false]
      exact jt
  · simp only [decide_eq_false ha]
    exact jt
end Go.Proofs.Ytlkknhojfhbopaa.Pure

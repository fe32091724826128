/- AsciiValues: values have no signs that steer but tabs; capitals are turned small, and nothing else. No condition. -/
import Derived.Test.YtlkknhojfhbopaaXFit01
import Derived.Test.YtlkknhojfhbopaaXLowerFacts
import Derived.Test.YtlkknhojfhbopaaX13
import Derived.Test.YtlkknhojfhbopaaX14
set_option linter.unusedVariables false
set_option linter.unusedSimpArgs false
namespace Go.Proofs.Ytlkknhojfhbopaa.Pure
open Go.RowKit Go.Proofs.Ytlkknhojfhbopaa.X Go.Proofs.YtlkknhojfhbopaaW.PrintWords Go.Proofs.YtlkknhojfhbopaaW.PrintLast Go.Proofs.Ytlkknhojfhbopaa.M

theorem value_f (l : List UInt8) : ascii_Value.f (toBA l) = some (l.all goodB) := by
  simp [ascii_Value.f, okFrom]
theorem av_l0 (l : List UInt8) (hl : l.length ≤ 1000) (rest : List UInt8) : ∀ (pre : List UInt8) (ok : Bool), l = pre ++ rest → (ok && rest.all goodB) = l.all goodB →
    Ev (fun k => crossroadlaw01_AsciiValues.l0 k (toBA l) ok (toBA (lowerL l)) (bytesOf (toBA l)) ((bytesOf (toBA l)).length : Int) (pre.length : Int)) true := by
  have hlen : (bytesOf (toBA l)).length = l.length := by simp [bytesOf_toBA]
  induction rest with
  | nil =>
    intro pre ok h hx
    have hp : pre.length = l.length := by subst h; simp
    refine Ev.step' ?_
    simp only [crossroadlaw01_AsciiValues.l0, hlen, if_neg (show ¬ (pre.length : Int) < (l.length : Int) by omega), value_f, Option.bind_some]
    rw [← hx]
    exact Ev.const (by simp)
  | cons c r ih =>
    intro pre ok h hx
    have hp : pre.length < l.length := by subst h; simp
    have hr : rd (bytesOf (toBA l)) (pre.length : Int) = (c.toNat : Int) := by rw [bytesOf_toBA, h]; simp [rd]
    have hbt : bt (toBA (lowerL l)) (pre.length : Int) = ((lowerB c).toNat : Int) := by
      have e : (pre.length : Int) = ((pre.map lowerB).length : Int) := by simp
      rw [h, lowerL, List.map_append, List.map_cons, e]; exact bt_mid _ _ _
    have hw : wrap64 ((pre.length : Int) + 1) = ((pre ++ [c]).length : Int) := by rw [w64 (by omega) (by omega)]; simp
    have hlow := lowerB_nat c
    have hc := u8_lt c
    have next := ih (pre ++ [c]) (ok && goodB c) (by simp [h]) (by rw [← hx]; simp [Bool.and_assoc])
    rw [hlen] at next
    have j2 : Ev (fun k => crossroadlaw01_AsciiValues.j2 k (toBA l) (ok && goodB c) (toBA (lowerL l)) (pre.length : Int) (c.toNat : Int) (bytesOf (toBA l)) (l.length : Int) (pre.length : Int)) true := by
      have j3 : ∀ u : Bool, u = decide (65 ≤ (c.toNat : Int) ∧ (c.toNat : Int) ≤ 90) → Ev (fun k => crossroadlaw01_AsciiValues.j3 k (toBA l) (ok && goodB c) (toBA (lowerL l)) (pre.length : Int) (c.toNat : Int) (bytesOf (toBA l)) (l.length : Int) (pre.length : Int) u) true := by
        intro u hu
        refine Ev.step' ?_
        simp only [crossroadlaw01_AsciiValues.j3, if_pos (show (0 : Int) ≤ (pre.length : Int) by omega), toBA_size, lowerL_length, if_pos (show (pre.length : Int) < (l.length : Int) by omega), hbt, hw]
        by_cases hup : 65 ≤ (c.toNat : Int) ∧ (c.toNat : Int) ≤ 90
        · rw [decide_eq_true hup] at hu
          rw [if_pos hup] at hlow
          simp only [hu, if_true, if_pos (show ((lowerB c).toNat : Int) = ((c.toNat : Int) + 32) % 256 by omega)]
          exact next
        · rw [decide_eq_false hup] at hu
          rw [if_neg hup] at hlow
          simp only [hu, Bool.false_eq_true, if_false, if_pos hlow]
          exact next
      refine Ev.step' ?_
      simp only [crossroadlaw01_AsciiValues.j2]
      by_cases h65 : (c.toNat : Int) ≥ 65
      · simp only [if_pos h65]
        refine j3 _ ?_
        by_cases h90 : (c.toNat : Int) ≤ 90
        · rw [decide_eq_true h90, decide_eq_true ⟨h65, h90⟩]
        · rw [decide_eq_false h90, decide_eq_false (fun h => h90 h.2)]
      · simp only [if_neg h65]
        exact j3 _ (by rw [decide_eq_false (fun h => h65 h.1)])
    refine Ev.step' ?_
    simp only [crossroadlaw01_AsciiValues.l0, hlen, if_pos (show (pre.length : Int) < (l.length : Int) by omega), if_pos (show (0 : Int) ≤ (pre.length : Int) by omega), hr]
    cases ok with
    | false => simpa using j2
    | true =>
      rw [Bool.true_and] at j2
      simp only [if_true]
      by_cases h32 : (c.toNat : Int) ≥ 32
      · simp only [if_pos h32]
        have e : ((c.toNat : Int) != 127) = goodB c := by rw [Bool.eq_iff_iff]; simp [goodB]; omega
        rw [e]; exact j2
      · simp only [if_neg h32]
        by_cases h9 : (c.toNat : Int) = 9
        · simp only [if_pos h9]
          have e : ((c.toNat : Int) != 127) = goodB c := by rw [Bool.eq_iff_iff]; simp [goodB]; omega
          rw [e]; exact j2
        · simp only [if_neg h9]
          have e : false = goodB c := by symm; simp [goodB]; omega
          rw [e]; exact j2
theorem AsciiValues : crossroadlaw01_AsciiValues.Pure := by
  intro s hs
  obtain ⟨l, rfl⟩ := exBA s
  refine head1 (l := l) (fun k => rfl) fun hl => ?_
  have hll := lowerL_length l
  simp only [lower_f l (by omega), Option.bind_some, toBA_size, hll, if_true, lower_f (lowerL l) (by omega), lowerL_idem, toBA_toList]
  have e : ((lowerL l != lowerL l) : Bool) = false := by simp
  simp only [e]
  refine Ev.step' ?_
  simp only [crossroadlaw01_AsciiValues.j0, Bool.false_eq_true, if_false, toBA_size, if_pos (show l.length ≤ 9223372036854775807 by omega), Option.bind_some]
  exact av_l0 l hl l [] true rfl (by simp)
end Go.Proofs.Ytlkknhojfhbopaa.Pure

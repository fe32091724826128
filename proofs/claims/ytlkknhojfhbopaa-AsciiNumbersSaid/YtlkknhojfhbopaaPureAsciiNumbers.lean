/- AsciiNumbers: for every text and both bases, ascii.Number answers the number of the digits, and none of others or of one above 2^30. No condition. -/
import Derived.Test.YtlkknhojfhbopaaXFit01
import Derived.Test.YtlkknhojfhbopaaX5
set_option linter.unusedVariables false
set_option linter.unusedSimpArgs false
namespace Go.Proofs.Ytlkknhojfhbopaa.Pure
open Go.RowKit Go.Proofs.Ytlkknhojfhbopaa.X Go.Proofs.YtlkknhojfhbopaaW.PrintWords Go.Proofs.YtlkknhojfhbopaaW.PrintLast Go.Proofs.Ytlkknhojfhbopaa.M

/-- The statement's own digit: 99 of what is none. -/
def dI (n : Int) : Int := if 48 ≤ n ∧ n ≤ 57 then n - 48 else if 97 ≤ n ∧ n ≤ 102 then n - 87 else if 65 ≤ n ∧ n ≤ 70 then n - 55 else 99
theorem dI_dig10 : ∀ n : Fin 256, if dI (n.val : Int) < 10 then digN 10 n.val = dI (n.val : Int) ∧ 0 ≤ dI (n.val : Int) else digN 10 n.val = -1 ∧ dI (n.val : Int) ≤ 99 := by decide +kernel
theorem dI_dig16 : ∀ n : Fin 256, if dI (n.val : Int) < 16 then digN 16 n.val = dI (n.val : Int) ∧ 0 ≤ dI (n.val : Int) else digN 16 n.val = -1 ∧ dI (n.val : Int) ≤ 99 := by decide +kernel
theorem dI_dig (b : Int) (hb : b = 10 ∨ b = 16) (c : UInt8) : (dI (c.toNat : Int) < b → digB b c = dI (c.toNat : Int) ∧ 0 ≤ dI (c.toNat : Int)) ∧ (¬ dI (c.toNat : Int) < b → digB b c = -1) ∧ 0 ≤ dI (c.toNat : Int) ∧ dI (c.toNat : Int) ≤ 99 := by
  have hr : 0 ≤ dI (c.toNat : Int) ∧ dI (c.toNat : Int) ≤ 99 := by unfold dI; (repeat' split) <;> omega
  rcases hb with rfl | rfl
  · have h := dI_dig10 ⟨c.toNat, c.toNat_lt⟩
    refine ⟨fun h1 => ?_, fun h1 => ?_, hr⟩
    · rw [if_pos h1] at h; exact h
    · rw [if_neg h1] at h; exact h.1
  · have h := dI_dig16 ⟨c.toNat, c.toNat_lt⟩
    refine ⟨fun h1 => ?_, fun h1 => ?_, hr⟩
    · rw [if_pos h1] at h; exact h
    · rw [if_neg h1] at h; exact h.1
theorem an_l0 (b : Int) (hb : b = 10 ∨ b = 16) (l : List UInt8) (hl : l.length ≤ 1000) (rest : List UInt8) : ∀ (pre : List UInt8) (ok : Bool) (x : Int), l = pre ++ rest → 0 ≤ x → x ≤ 1073741824 →
    (ok = true → numL b l = (match numGo b x rest with | none => (0, false) | some y => (y, true))) → (ok = false → numL b l = (0, false)) →
    Ev (fun k => crossroadlaw01_AsciiNumbers.l0 k (toBA l) b ok x (bytesOf (toBA l)) ((bytesOf (toBA l)).length : Int) (pre.length : Int)) true := by
  have hlen : (bytesOf (toBA l)).length = l.length := by simp [bytesOf_toBA]
  induction rest with
  | nil =>
    intro pre ok x h h0 hx h1 h2
    have hp : pre.length = l.length := by subst h; simp
    refine Ev.step' ?_
    simp only [crossroadlaw01_AsciiNumbers.l0, hlen, if_neg (show ¬ (pre.length : Int) < (l.length : Int) by omega)]
    refine Ev.bind (number_f b hb l (by omega)) ?_
    cases ok with
    | true => rw [h1 rfl]; exact Ev.const (by simp [numGo])
    | false => rw [h2 rfl]; exact Ev.const (by simp)
  | cons c r ih =>
    intro pre ok x h h0 hx h1 h2
    have hp : pre.length < l.length := by subst h; simp
    have hr : rd (bytesOf (toBA l)) (pre.length : Int) = (c.toNat : Int) := by rw [bytesOf_toBA, h]; simp [rd]
    have hw : wrap64 ((pre.length : Int) + 1) = ((pre ++ [c]).length : Int) := by rw [w64 (by omega) (by omega)]; simp
    obtain ⟨hd1, hd2, hd3, hd4⟩ := dI_dig b hb c
    have hm : 0 ≤ x * b ∧ x * b ≤ 17179869184 := by rcases hb with rfl | rfl <;> omega
    have hw2 : wrap64 (wrap64 (x * b) + dI (c.toNat : Int)) = x * b + dI (c.toNat : Int) := by rw [w64 (x := x * b) (by omega) (by omega), w64 (by omega) (by omega)]
    -- what a round comes to
    have next : Ev (fun k => if x * b + dI (c.toNat : Int) > 1073741824 then crossroadlaw01_AsciiNumbers.l0 k (toBA l) b false 0 (bytesOf (toBA l)) ((bytesOf (toBA l)).length : Int) ((pre ++ [c]).length : Int)
        else crossroadlaw01_AsciiNumbers.l0 k (toBA l) b (ok && decide (dI (c.toNat : Int) < b)) (x * b + dI (c.toNat : Int)) (bytesOf (toBA l)) ((bytesOf (toBA l)).length : Int) ((pre ++ [c]).length : Int)) true := by
      by_cases hg : x * b + dI (c.toNat : Int) > 1073741824
      · simp only [if_pos hg]
        refine ih (pre ++ [c]) false 0 (by simp [h]) (by omega) (by omega) (fun h => by cases h) (fun _ => ?_)
        cases ok with
        | false => exact h2 rfl
        | true =>
          rw [h1 rfl]
          by_cases hlt : dI (c.toNat : Int) < b
          · have e := (hd1 hlt).1
            simp only [numGo, e, if_neg (show ¬ dI (c.toNat : Int) < 0 by omega), if_pos hg]
          · simp only [numGo, hd2 hlt, if_pos (show (-1 : Int) < 0 by omega)]
      · simp only [if_neg hg]
        refine ih (pre ++ [c]) _ _ (by simp [h]) (by omega) (by omega) (fun ho => ?_) (fun ho => ?_)
        · have ho' := Bool.and_eq_true_iff.1 ho
          have hlt : dI (c.toNat : Int) < b := of_decide_eq_true ho'.2
          have e := (hd1 hlt).1
          rw [h1 ho'.1]
          simp only [numGo, e, if_neg (show ¬ dI (c.toNat : Int) < 0 by omega), if_neg hg]
        · cases ok with
          | false => exact h2 rfl
          | true =>
            have hlt : ¬ dI (c.toNat : Int) < b := by simpa using ho
            rw [h1 rfl]
            simp only [numGo, hd2 hlt, if_pos (show (-1 : Int) < 0 by omega)]
    rw [hlen] at next
    have fin : ∀ f : Nat → Option Bool, (∀ k, f k = if ok = true then (if x * b + dI (c.toNat : Int) > 1073741824 then crossroadlaw01_AsciiNumbers.l0 k (toBA l) b false 0 (bytesOf (toBA l)) (l.length : Int) ((pre ++ [c]).length : Int) else crossroadlaw01_AsciiNumbers.l0 k (toBA l) b (decide (dI (c.toNat : Int) < b)) (x * b + dI (c.toNat : Int)) (bytesOf (toBA l)) (l.length : Int) ((pre ++ [c]).length : Int))
        else (if x * b + dI (c.toNat : Int) > 1073741824 then crossroadlaw01_AsciiNumbers.l0 k (toBA l) b false 0 (bytesOf (toBA l)) (l.length : Int) ((pre ++ [c]).length : Int) else crossroadlaw01_AsciiNumbers.l0 k (toBA l) b false (x * b + dI (c.toNat : Int)) (bytesOf (toBA l)) (l.length : Int) ((pre ++ [c]).length : Int))) → Ev f true := by
      intro f hf
      refine Ev.congr hf ?_
      cases ok with
      | true => simpa using next
      | false => simpa using next
    have hc := u8_lt c
    refine Ev.step' ?_
    simp only [crossroadlaw01_AsciiNumbers.l0, hlen, if_pos (show (pre.length : Int) < (l.length : Int) by omega), if_pos (show (0 : Int) ≤ (pre.length : Int) by omega), hr]
    by_cases c1 : 48 ≤ (c.toNat : Int) ∧ (c.toNat : Int) ≤ 57
    · have e : dI (c.toNat : Int) = ((c.toNat : Int) - 48) % 256 := by rw [dI, if_pos c1]; omega
      simp only [if_pos (show (c.toNat : Int) ≥ 48 from c1.1), decide_eq_true c1.2]
      refine Ev.step' ?_
      simp only [crossroadlaw01_AsciiNumbers.j2, if_true]
      refine fin _ fun k => ?_
      rw [← e, hw2, hw]
    · by_cases c2 : 97 ≤ (c.toNat : Int) ∧ (c.toNat : Int) ≤ 102
      · have e : dI (c.toNat : Int) = (((c.toNat : Int) - 97) % 256) + 10 := by rw [dI, if_neg c1, if_pos c2]; omega
        simp only [if_pos (show (c.toNat : Int) ≥ 48 by omega), decide_eq_false (show ¬ (c.toNat : Int) ≤ 57 by omega)]
        refine Ev.step' ?_
        simp only [crossroadlaw01_AsciiNumbers.j2, if_neg Bool.false_ne_true, if_pos (show (c.toNat : Int) ≥ 97 by omega), decide_eq_true c2.2]
        refine Ev.step' ?_
        simp only [crossroadlaw01_AsciiNumbers.j3, if_true]
        refine fin _ fun k => ?_
        rw [← e, hw2, hw]
      · -- on to the capitals
        have capitals : Ev (fun k => if (c.toNat : Int) ≥ 65 then crossroadlaw01_AsciiNumbers.j4 k (toBA l) b ok x (c.toNat : Int) 99 (bytesOf (toBA l)) (l.length : Int) (pre.length : Int) (decide ((c.toNat : Int) ≤ 70)) else crossroadlaw01_AsciiNumbers.j4 k (toBA l) b ok x (c.toNat : Int) 99 (bytesOf (toBA l)) (l.length : Int) (pre.length : Int) false) true := by
          by_cases c3 : 65 ≤ (c.toNat : Int) ∧ (c.toNat : Int) ≤ 70
          · have e : dI (c.toNat : Int) = (((c.toNat : Int) - 65) % 256) + 10 := by rw [dI, if_neg c1, if_neg c2, if_pos c3]; omega
            simp only [if_pos (show (c.toNat : Int) ≥ 65 by omega), decide_eq_true c3.2]
            refine Ev.step' ?_
            simp only [crossroadlaw01_AsciiNumbers.j4, if_true]
            refine fin _ fun k => ?_
            rw [← e, hw2, hw]
          · have e : dI (c.toNat : Int) = 99 := by rw [dI, if_neg c1, if_neg c2, if_neg c3]
            have j4 : Ev (fun k => crossroadlaw01_AsciiNumbers.j4 k (toBA l) b ok x (c.toNat : Int) 99 (bytesOf (toBA l)) (l.length : Int) (pre.length : Int) false) true := by
              refine Ev.step' ?_
              simp only [crossroadlaw01_AsciiNumbers.j4, if_neg Bool.false_ne_true]
              refine fin _ fun k => ?_
              rw [← e, hw2, hw]
            by_cases c4 : (c.toNat : Int) ≥ 65
            · simp only [if_pos c4, decide_eq_false (show ¬ (c.toNat : Int) ≤ 70 by omega)]
              exact j4
            · simp only [if_neg c4]
              exact j4
        have j3 : Ev (fun k => crossroadlaw01_AsciiNumbers.j3 k (toBA l) b ok x (c.toNat : Int) 99 (bytesOf (toBA l)) (l.length : Int) (pre.length : Int) false) true := by
          refine Ev.step' ?_
          simp only [crossroadlaw01_AsciiNumbers.j3, if_neg Bool.false_ne_true]
          exact capitals
        have j2 : Ev (fun k => crossroadlaw01_AsciiNumbers.j2 k (toBA l) b ok x (c.toNat : Int) 99 (bytesOf (toBA l)) (l.length : Int) (pre.length : Int) false) true := by
          refine Ev.step' ?_
          simp only [crossroadlaw01_AsciiNumbers.j2, if_neg Bool.false_ne_true]
          by_cases c5 : (c.toNat : Int) ≥ 97
          · simp only [if_pos c5, decide_eq_false (show ¬ (c.toNat : Int) ≤ 102 by omega)]
            exact j3
          · simp only [if_neg c5]
            exact j3
        by_cases c6 : (c.toNat : Int) ≥ 48
        · simp only [if_pos c6, decide_eq_false (show ¬ (c.toNat : Int) ≤ 57 by omega)]
          exact j2
        · simp only [if_neg c6]
          exact j2
theorem an_j0 (b : Int) (hb : b = 10 ∨ b = 16) (l : List UInt8) (hl : l.length ≤ 1000) : Ev (fun k => crossroadlaw01_AsciiNumbers.j0 k (toBA l) b) true := by
  refine Ev.step' ?_
  simp only [crossroadlaw01_AsciiNumbers.j0, toBA_size, if_pos (show l.length ≤ 9223372036854775807 by omega), Option.bind_some, toBA_toList]
  refine an_l0 b hb l hl l [] (!l.isEmpty) 0 rfl (by omega) (by omega) (fun h => ?_) (fun h => ?_)
  · rw [numL, h]; cases numGo b 0 l <;> rfl
  · have : l = [] := by cases l with
      | nil => rfl
      | cons => simp at h
    subst this
    simp [numL, numGo]
theorem AsciiNumbers : crossroadlaw01_AsciiNumbers.Pure := by
  intro s hex hs
  obtain ⟨l, rfl⟩ := exBA s
  refine head1 (l := l) (fun k => rfl) fun hl => ?_
  cases hex with
  | true => simpa using an_j0 16 (.inr rfl) l hl
  | false => simpa using an_j0 10 (.inl rfl) l hl
end Go.Proofs.Ytlkknhojfhbopaa.Pure

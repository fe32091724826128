/- AsciiTokens: for every text, ascii.Token says just whether it has one or more of the document's signs and no other. No condition. -/
import Derived.Test.YtlkknhojfhbopaaXFit01
import Derived.Test.YtlkknhojfhbopaaX4
set_option linter.unusedVariables false
set_option linter.unusedSimpArgs false
namespace Go.Proofs.Ytlkknhojfhbopaa.Pure
open Go.RowKit Go.Proofs.Ytlkknhojfhbopaa.X Go.Proofs.YtlkknhojfhbopaaW.PrintWords Go.Proofs.YtlkknhojfhbopaaW.PrintLast Go.Proofs.Ytlkknhojfhbopaa.M

def marksI : List Int := [33, 35, 36, 37, 38, 39, 42, 43, 45, 46, 94, 95, 124, 126, 96]
def baseI (n : Int) : Bool := decide (48 ≤ n ∧ n ≤ 57) || decide (65 ≤ n ∧ n ≤ 90) || decide (97 ≤ n ∧ n ≤ 122)
theorem base_marks : ∀ n : Fin 256, (baseI (n.val : Int) || marksI.any fun m => (n.val : Int) == m) = markN n.val := by decide +kernel
theorem base_markB (c : UInt8) : (baseI (c.toNat : Int) || marksI.any fun m => (c.toNat : Int) == m) = markB c := base_marks ⟨c.toNat, c.toNat_lt⟩
theorem tok_l1 (x0 : ByteArray) (x3 : Bool) (x5 : Int) (x17 : List Int) (x18 x19 : Int) (post : List Int) : ∀ (pre : List Int) (x6 : Bool), marksI = pre ++ post →
    Ev (fun k => crossroadlaw01_AsciiTokens.l0 k x0 (x3 && (x6 || post.any fun m => x5 == m)) x17 x18 (wrap64 (x19 + 1))) true →
    Ev (fun k => crossroadlaw01_AsciiTokens.l1 k x0 x3 x5 x6 x17 x18 x19 marksI 15 (pre.length : Int)) true := by
  induction post with
  | nil =>
    intro pre x6 h hv
    have hl : pre.length = 15 := by have := congrArg List.length h; simp [marksI] at this; omega
    refine Ev.step' ?_
    simp only [crossroadlaw01_AsciiTokens.l1, if_neg (show ¬ (pre.length : Int) < 15 by omega)]
    cases x3 with
    | true => simpa using hv
    | false => simpa using hv
  | cons m r ih =>
    intro pre x6 h hv
    have hl : pre.length < 15 := by have := congrArg List.length h; simp [marksI] at this; omega
    have hr : rd marksI (pre.length : Int) = m := by rw [h]; simp [rd]
    have hw : wrap64 ((pre.length : Int) + 1) = ((pre ++ [m]).length : Int) := by rw [w64 (by omega) (by omega)]; simp
    have hm : (marksI.length : Int) = 15 := rfl
    refine Ev.step' ?_
    simp only [crossroadlaw01_AsciiTokens.l1, if_pos (show (pre.length : Int) < 15 by omega), if_pos (show (0 : Int) ≤ (pre.length : Int) by omega), hm, hr, hw]
    cases x6 with
    | true =>
      simp only [if_true]
      refine ih (pre ++ [m]) true (by simp [h]) ?_
      simpa using hv
    | false =>
      refine ih (pre ++ [m]) (x5 == m) (by simp [h]) ?_
      simpa using hv
theorem tok_j1 (x0 : ByteArray) (x3 : Bool) (x5 : Int) (x17 : List Int) (x18 x19 : Int) (x6 : Bool)
    (hv : Ev (fun k => crossroadlaw01_AsciiTokens.l0 k x0 (x3 && (x6 || marksI.any fun m => x5 == m)) x17 x18 (wrap64 (x19 + 1))) true) :
    Ev (fun k => crossroadlaw01_AsciiTokens.j1 k x0 x3 x5 x6 x17 x18 x19) true := by
  refine Ev.step' ?_
  simp only [crossroadlaw01_AsciiTokens.j1, Option.bind_some]
  exact tok_l1 x0 x3 x5 x17 x18 x19 marksI [] x6 rfl hv
theorem tok_l0 (l : List UInt8) (hl : l.length ≤ 1000) (rest : List UInt8) : ∀ (pre : List UInt8) (x3 : Bool), l = pre ++ rest → (x3 && rest.all markB) = tokenL l →
    Ev (fun k => crossroadlaw01_AsciiTokens.l0 k (toBA l) x3 (bytesOf (toBA l)) ((bytesOf (toBA l)).length : Int) (pre.length : Int)) true := by
  have hlen : (bytesOf (toBA l)).length = l.length := by simp [bytesOf_toBA]
  induction rest with
  | nil =>
    intro pre x3 h hx
    have hp : pre.length = l.length := by subst h; simp
    refine Ev.step' ?_
    simp only [crossroadlaw01_AsciiTokens.l0, hlen, if_neg (show ¬ (pre.length : Int) < (l.length : Int) by omega)]
    refine Ev.bind (token_f l (by omega)) ?_
    rw [← hx]
    exact Ev.const (by simp)
  | cons c r ih =>
    intro pre x3 h hx
    have hp : pre.length < l.length := by subst h; simp
    have hr : rd (bytesOf (toBA l)) (pre.length : Int) = (c.toNat : Int) := by rw [bytesOf_toBA, h]; simp [rd]
    have hw : wrap64 ((pre.length : Int) + 1) = ((pre ++ [c]).length : Int) := by rw [w64 (by omega) (by omega)]; simp
    have next := tok_j1 (toBA l) x3 (c.toNat : Int) (bytesOf (toBA l)) ((bytesOf (toBA l)).length : Int) (pre.length : Int) (baseI (c.toNat : Int)) (by
      rw [base_markB, hw]
      exact ih (pre ++ [c]) (x3 && markB c) (by simp [h]) (by rw [← hx]; simp [Bool.and_assoc]))
    refine Ev.step' ?_
    simp only [crossroadlaw01_AsciiTokens.l0, hlen, if_pos (show (pre.length : Int) < (l.length : Int) by omega), if_pos (show (0 : Int) ≤ (pre.length : Int) by omega), hr]
    rw [hlen] at next
    revert next
    generalize (c.toNat : Int) = n
    intro next
    by_cases h1 : n ≥ 48 <;> by_cases h2 : n ≤ 57 <;> by_cases h3 : n ≥ 65 <;> by_cases h4 : n ≤ 90 <;> by_cases h5 : n ≥ 97 <;> first
      | (exfalso; omega)
      | (simp only [h1, h2, h3, h4, h5, if_true, if_false]
         refine Ev.congr (fun k => ?_) next
         congr 1
         unfold baseI
         by_cases h6 : n ≤ 122
         · simp only [h6, decide_true]; first | rfl | (symm; simp; omega) | (simp; omega)
         · simp only [h6, decide_false]; first | rfl | (symm; simp; omega) | (simp; omega))
theorem AsciiTokens : crossroadlaw01_AsciiTokens.Pure := by
  intro s hs
  obtain ⟨l, rfl⟩ := exBA s
  refine head1 (l := l) (fun k => rfl) fun hl => ?_
  simp only [toBA_size, if_pos (show l.length ≤ 9223372036854775807 by omega), Option.bind_some, toBA_toList]
  exact tok_l0 l hl l [] (!l.isEmpty) rfl (by simp [tokenL, Bool.and_comm])
end Go.Proofs.Ytlkknhojfhbopaa.Pure

/- AsciiTrims: for every text, blanks and tabs at both ends go, and nothing else. No condition. -/
import Derived.Test.YtlkknhojfhbopaaXFit01
import Derived.Test.YtlkknhojfhbopaaXTrim
import Derived.Test.YtlkknhojfhbopaaXBits
import Derived.Test.YtlkknhojfhbopaaX9
set_option linter.unusedVariables false
set_option linter.unusedSimpArgs false
namespace Go.Proofs.Ytlkknhojfhbopaa.Pure
open Go.RowKit Go.Proofs.Ytlkknhojfhbopaa.X Go.Proofs.YtlkknhojfhbopaaW.PrintWords Go.Proofs.YtlkknhojfhbopaaW.PrintLast Go.Proofs.Ytlkknhojfhbopaa.M

def padA : List UInt8 := [9, 32, 32, 32, 32, 32, 32, 32]
def padB : List UInt8 := [32, 32, 9, 32, 32, 32, 32, 32]
theorem take_blank (p : List UInt8) (h : p.all blankB = true) (n : Nat) : (p.take n).all blankB = true :=
  List.all_eq_true.2 fun x hx => List.all_eq_true.1 h x (List.mem_of_mem_take hx)
theorem at_l0 (l : List UInt8) (hl : l.length ≤ 1000) (a b : Int) (ha : 0 ≤ a ∧ a ≤ 7) (hb : 0 ≤ b ∧ b ≤ 7) (rest : List UInt8) : ∀ (pre : List UInt8) (x8 : Bool), l = pre ++ rest → (x8 && rest.all blankB) = l.all blankB →
    Ev (fun k => crossroadlaw01_AsciiTrims.l0 k (toBA l) a b (toBA (trimL l)) x8 (l.length : Int) (pre.length : Int)) true := by
  induction rest with
  | nil =>
    intro pre x8 h hx
    have hp : pre.length = l.length := by subst h; simp
    have e1 : (⟨#[9, 32, 32, 32, 32, 32, 32, 32]⟩ : ByteArray).extract 0 a.toNat = toBA (padA.take a.toNat) := by
      rw [show (⟨#[9, 32, 32, 32, 32, 32, 32, 32]⟩ : ByteArray) = toBA padA from rfl, toBA_extract]; simp
    have e2 : (⟨#[32, 32, 9, 32, 32, 32, 32, 32]⟩ : ByteArray).extract 0 b.toNat = toBA (padB.take b.toNat) := by
      rw [show (⟨#[32, 32, 9, 32, 32, 32, 32, 32]⟩ : ByteArray) = toBA padB from rfl, toBA_extract]; simp
    have la : (padA.take a.toNat).length ≤ 8 := by simp [padA]; omega
    have lb : (padB.take b.toNat).length ≤ 8 := by simp [padB]; omega
    have hx' : x8 = l.all blankB := by simpa using hx
    have ht : ((trimL l).isEmpty == x8) = true := by
      rw [hx']
      have h1 := trim_nil_iff l
      cases hb : l.all blankB with
      | true => rw [h1.2 hb]; rfl
      | false =>
        cases hq : trimL l with
        | nil => rw [h1.1 hq] at hb; cases hb
        | cons => rfl
    refine Ev.step' ?_
    simp only [crossroadlaw01_AsciiTrims.l0, if_neg (show ¬ (pre.length : Int) < (l.length : Int) by omega), toBA_toList, ht, if_true, if_pos ha.1, if_pos (show a ≤ 8 by omega), e1, e2, toBA_append, toBA_size,
      if_pos (show (padA.take a.toNat).length + l.length ≤ 9223372036854775807 by omega), if_pos hb.1, if_pos (show b ≤ 8 by omega), if_pos (show (padA.take a.toNat ++ l).length + (padB.take b.toNat).length ≤ 9223372036854775807 by rw [List.length_append]; omega)]
    refine Ev.bind (trim_f _ (by rw [List.length_append, List.length_append]; omega)) ?_
    rw [trim_pad _ _ _ (take_blank padA (by decide) _) (take_blank padB (by decide) _)]
    exact Ev.const (by simp)
  | cons c r ih =>
    intro pre x8 h hx
    have hp : pre.length < l.length := by subst h; simp
    have hbt : bt (toBA l) (pre.length : Int) = (c.toNat : Int) := by rw [h]; exact bt_mid _ _ _
    have hw : wrap64 ((pre.length : Int) + 1) = ((pre ++ [c]).length : Int) := by rw [w64 (by omega) (by omega)]; simp
    refine Ev.step' ?_
    simp only [crossroadlaw01_AsciiTrims.l0, if_pos (show (pre.length : Int) < (l.length : Int) by omega), toBA_size, if_pos (show (0 : Int) ≤ (pre.length : Int) by omega), hbt, hw]
    cases x8 with
    | true =>
      simp only [if_true]
      by_cases h1 : (c.toNat : Int) = 32
      · have e : blankB c = true := by simp [blankB]; omega
        simp only [if_pos h1]
        exact ih (pre ++ [c]) true (by simp [h]) (by simpa [e] using hx)
      · simp only [if_neg h1]
        have e : ((c.toNat : Int) == 9) = blankB c := by
          rw [blankB, Bool.eq_iff_iff]; simp; omega
        rw [e]
        exact ih (pre ++ [c]) _ (by simp [h]) (by simpa using hx)
    | false =>
      simp only [Bool.false_eq_true, if_false]
      exact ih (pre ++ [c]) false (by simp [h]) (by simpa using hx)
theorem at_j0 (l : List UInt8) (hl : l.length ≤ 1000) (a b : Int) (ha : 0 ≤ a ∧ a ≤ 7) (hb : 0 ≤ b ∧ b ≤ 7) : Ev (fun k => crossroadlaw01_AsciiTrims.j0 k (toBA l) a b (toBA (trimL l)) false) true := by
  refine Ev.step' ?_
  simp only [crossroadlaw01_AsciiTrims.j0, Bool.false_eq_true, if_false, toBA_size]
  exact at_l0 l hl a b ha hb l [] true rfl (by simp)
theorem AsciiTrims : crossroadlaw01_AsciiTrims.Pure := by
  intro s a b hs ha hb
  obtain ⟨l, rfl⟩ := exBA s
  refine head1 (l := l) (fun k => rfl) fun hl => ?_
  have j := at_j0 l hl (bits .and .i64 a 7) (bits .and .i64 b 7) (by rw [i64_and7]; omega) (by rw [i64_and7]; omega)
  have hlen := trim_len l
  refine Ev.bind (trim_f l (by omega)) ?_
  refine Ev.bind (trim_f (trimL l) (by omega)) ?_
  simp only [trim_idem, if_true, toBA_size, if_neg (show ¬ ((trimL l).length : Int) > (l.length : Int) by omega), toBA_toList]
  rcases trim_ends l with h | ⟨⟨c, r, h1, hc⟩, i, d, h2, hd⟩
  · simp only [h, if_true]
    rw [h] at j
    exact j
  · have hne : ¬ trimL l = [] := by rw [h1]; simp
    have hpos : 0 < (trimL l).length := by rw [h1]; simp
    have hb0 : bt (toBA (trimL l)) 0 = (c.toNat : Int) := by rw [h1]; exact bt_mid [] r c
    have hn : (trimL l).length = i.length + 1 := by rw [h2]; simp
    have hw : wrap64 (((trimL l).length : Int) - 1) = (i.length : Int) := by rw [w64 (by omega) (by omega)]; omega
    have hbl : bt (toBA (trimL l)) (i.length : Int) = (d.toNat : Int) := by rw [h2]; exact bt_mid i [] d
    have c32 : ¬ (c.toNat : Int) = 32 := fun h => by simp [blankB] at hc; omega
    have c9 : ¬ (c.toNat : Int) = 9 := fun h => by simp [blankB] at hc; omega
    have d32 : ¬ (d.toNat : Int) = 32 := fun h => by simp [blankB] at hd; omega
    have d9 : ((d.toNat : Int) == 9) = false := by simp [blankB] at hd; simp; omega
    simp only [if_neg hne, if_pos (show (0 : Int) < ((trimL l).length : Int) by omega), hb0, if_neg c32, if_neg c9, hw, if_pos (show (0 : Int) ≤ (i.length : Int) by omega), if_pos (show (i.length : Int) < ((trimL l).length : Int) by omega), hbl, if_neg d32, d9]
    exact j
end Go.Proofs.Ytlkknhojfhbopaa.Pure

/- HeadFirst: a first line has three words: a token, a target, and the version. No condition. -/
import Derived.Test.YtaafeojjcfognaaXHeadFacts
import Derived.Test.YtaafeojjcfognaaX18
set_option linter.unusedVariables false
set_option linter.unusedSimpArgs false
namespace Go.Proofs.Ytaafeojjcfognaa.Pure
open Go.RowKit Go.Proofs.Ytaafeojjcfognaa.X Go.Proofs.YtaafeojjcfognaaW.PrintWords Go.Proofs.YtaafeojjcfognaaW.PrintLast Go.Proofs.Ytaafeojjcfognaa.M

theorem two_parse (a b c : List UInt8) (h : a.length + b.length + c.length ≤ 180) (ha : ∀ x ∈ a, x.toNat ≠ 32) (hb : ∀ x ∈ b, x.toNat ≠ 32) (hc : ∀ x ∈ c, x.toNat ≠ 32) :
    parseL [a ++ 32 :: (b ++ 32 :: c), lHost] = if firstL a b = true ∧ c = sVer then ⟨a, b, [fHost], false, 0, 0⟩ else badL 400 := by
  by_cases hf : firstL a b = true
  · by_cases hv : c = sVer
    · subst hv
      rw [if_pos ⟨hf, rfl⟩, parse_plain a b [lHost] [fHost] ha hb (by omega) (by simp) hf (by decide +kernel), frame_plain _ _ _ (by decide +kernel) (by decide +kernel) (by decide +kernel)]
      have : closeL [fHost] = false := by decide +kernel
      rw [this]
    · rw [if_neg (fun h => hv h.2), parseL, if_neg (by simp; omega), words3 a b c ha hb hc]
      simp only [hf, if_true, if_neg hv]
  · rw [if_neg (fun h => hf h.1), parseL, if_neg (by simp; omega), words3 a b c ha hb hc]
    simp only [if_neg hf]
section
variable (a b c : List UInt8)
theorem first_end (h : a.length + b.length + c.length ≤ 180) (ha : ∀ x ∈ a, x.toNat ≠ 32) (hb : ∀ x ∈ b, x.toNat ≠ 32) (hc : ∀ x ∈ c, x.toNat ≠ 32) :
    Ev (fun k => crossroadlaw02_HeadFirst.l0 k (toBA a) (toBA b) (toBA c) [toBA a, toBA b, toBA c] 3 3) true := by
  have s1 : (⟨#[32]⟩ : ByteArray) = toBA [32] := rfl
  have s2 : (⟨#[104, 111, 115, 116, 58, 32, 97]⟩ : ByteArray) = toBA lHost := rfl
  refine Ev.step' ?_
  simp only [crossroadlaw02_HeadFirst.l0, if_neg (show ¬ (3 : Int) < 3 by omega), s1, s2, toBA_size, toBA_append, List.length_append, List.length_singleton, if_pos (show a.length + 1 ≤ 9223372036854775807 by omega), if_pos (show a.length + 1 + b.length ≤ 9223372036854775807 by omega), if_pos (show a.length + 1 + b.length + 1 ≤ 9223372036854775807 by omega), if_pos (show a.length + 1 + b.length + 1 + c.length ≤ 9223372036854775807 by omega)]
  have e : a ++ [32] ++ b ++ [32] ++ c = a ++ 32 :: (b ++ 32 :: c) := by simp
  simp only [e]
  have p := parse_f [a ++ 32 :: (b ++ 32 :: c), lHost] (by simp) (by
    intro l hl
    simp only [List.mem_cons, List.not_mem_nil, or_false] at hl
    rcases hl with rfl | rfl
    · simp; omega
    · decide)
  refine Ev.bind p ?_
  refine Ev.bind (token_f a (by omega)) ?_
  rw [two_parse a b c h ha hb hc]
  have no : ¬ (firstL a b = true ∧ c = sVer) → (hT (if firstL a b = true ∧ c = sVer then ⟨a, b, [fHost], false, 0, 0⟩ else badL 400)).2.2.2.2.2.2 = 400 := fun h => by rw [if_neg h]; rfl
  cases ht : tokenL a with
  | false =>
    have := no (by simp [firstL, ht])
    simp only [Bool.false_eq_true, if_false, this]
    exact Ev.now true
  | true =>
    simp only [if_true]
    cases b with
    | nil =>
      have := no (by simp [firstL, slash1])
      simp only [toBA_toList, if_true, this]
      exact Ev.now true
    | cons d b' =>
      have hbt : bt (toBA (d :: b')) 0 = (d.toNat : Int) := bt_mid [] b' d
      simp only [toBA_toList, toBA_size, hbt, if_neg (show ¬ (d :: b') = ([] : List UInt8) by simp), if_pos (show (0 : Int) < ((d :: b').length : Int) by simp only [List.length_cons]; omega)]
      by_cases h47 : d.toNat = 47
      · simp only [if_pos (show (d.toNat : Int) = 47 by omega), value_f, Option.bind_some]
        cases hv : valueL (d :: b') with
        | false =>
          have := no (by simp [firstL, hv])
          simp only [Bool.false_eq_true, if_false, this]
          exact Ev.now true
        | true =>
          simp only [if_true]
          by_cases hc8 : c = sVer
          · have hf : firstL a (d :: b') = true ∧ c = sVer := ⟨by simp [firstL, ht, slash1, h47, hv], hc8⟩
            simp only [if_pos (show c = ([72, 84, 84, 80, 47, 49, 46, 49] : List UInt8) from hc8), if_pos hf, hT, toBA_toList, if_true, Bool.false_eq_true, if_false]
            exact Ev.now true
          · simp only [if_neg (show ¬ c = ([72, 84, 84, 80, 47, 49, 46, 49] : List UInt8) from hc8), no (fun h => hc8 h.2)]
            exact Ev.now true
      · simp only [if_neg (show ¬ (d.toNat : Int) = 47 by omega), no (by simp [firstL, slash1, h47])]
        exact Ev.now true
theorem first_l1 (w : List UInt8) (hw : w.length ≤ 180) (ws : List ByteArray) (n i : Int) (post : List UInt8) : ∀ pre : List UInt8, w = pre ++ post →
    ((∀ x ∈ post, x.toNat ≠ 32) → Ev (fun k => crossroadlaw02_HeadFirst.l0 k (toBA a) (toBA b) (toBA c) ws n (wrap64 (i + 1))) true) →
    Ev (fun k => crossroadlaw02_HeadFirst.l1 k (toBA a) (toBA b) (toBA c) (toBA w) ws n i (w.length : Int) (pre.length : Int)) true := by
  induction post with
  | nil =>
    intro pre h next
    have hp : pre.length = w.length := by subst h; simp
    refine Ev.step' ?_
    simp only [crossroadlaw02_HeadFirst.l1, if_neg (show ¬ (pre.length : Int) < (w.length : Int) by omega)]
    exact next (by simp)
  | cons d r ih =>
    intro pre h next
    have hp : pre.length < w.length := by subst h; simp
    have hb : bt (toBA w) (pre.length : Int) = (d.toNat : Int) := by rw [h]; exact bt_mid _ _ _
    have hwr : wrap64 ((pre.length : Int) + 1) = ((pre ++ [d]).length : Int) := by rw [w64 (by omega) (by omega)]; simp
    refine Ev.step' ?_
    simp only [crossroadlaw02_HeadFirst.l1, if_pos (show (pre.length : Int) < (w.length : Int) by omega), if_pos (show (0 : Int) ≤ (pre.length : Int) by omega), toBA_size, hb, hwr]
    by_cases h32 : d.toNat = 32
    · rw [show (fun k => if (d.toNat : Int) = 32 then some true else crossroadlaw02_HeadFirst.l1 k (toBA a) (toBA b) (toBA c) (toBA w) ws n i (w.length : Int) ((pre ++ [d]).length : Int)) = fun _ => some true from funext fun k => if_pos (by omega)]
      exact Ev.now true
    · simp only [if_neg (show ¬ (d.toNat : Int) = 32 by omega)]
      exact ih (pre ++ [d]) (by simp [h]) (fun h => next (fun x hx => by
        rcases List.mem_cons.1 hx with rfl | hx
        · exact h32
        · exact h x hx))
theorem first_l0 (h : a.length + b.length + c.length ≤ 180) : Ev (fun k => crossroadlaw02_HeadFirst.l0 k (toBA a) (toBA b) (toBA c) [toBA a, toBA b, toBA c] 3 0) true := by
  have r0 : rdOf ByteArray.empty [toBA a, toBA b, toBA c] 0 = toBA a := rfl
  have r1 : rdOf ByteArray.empty [toBA a, toBA b, toBA c] 1 = toBA b := rfl
  have r2 : rdOf ByteArray.empty [toBA a, toBA b, toBA c] 2 = toBA c := rfl
  have l3 : ([toBA a, toBA b, toBA c] : List ByteArray).length = 3 := rfl
  have w1 : wrap64 (0 + 1) = 1 := w64 (by omega) (by omega)
  have w2 : wrap64 (1 + 1) = 2 := w64 (by omega) (by omega)
  have w3 : wrap64 (2 + 1) = 3 := w64 (by omega) (by omega)
  refine Ev.step' ?_
  simp only [crossroadlaw02_HeadFirst.l0, if_pos (show (0 : Int) < 3 by omega), if_pos (show (0 : Int) ≤ 0 by omega), l3, if_pos (show (0 : Int) < ((3 : Nat) : Int) by omega), r0, toBA_size]
  refine first_l1 a b c a (by omega) _ 3 0 a [] rfl (fun ha => ?_)
  rw [w1]
  refine Ev.step' ?_
  simp only [crossroadlaw02_HeadFirst.l0, if_pos (show (1 : Int) < 3 by omega), if_pos (show (0 : Int) ≤ 1 by omega), l3, if_pos (show (1 : Int) < ((3 : Nat) : Int) by omega), r1, toBA_size]
  refine first_l1 a b c b (by omega) _ 3 1 b [] rfl (fun hb => ?_)
  rw [w2]
  refine Ev.step' ?_
  simp only [crossroadlaw02_HeadFirst.l0, if_pos (show (2 : Int) < 3 by omega), if_pos (show (0 : Int) ≤ 2 by omega), l3, if_pos (show (2 : Int) < ((3 : Nat) : Int) by omega), r2, toBA_size]
  refine first_l1 a b c c (by omega) _ 3 2 c [] rfl (fun hc => ?_)
  rw [w3]
  exact first_end a b c h ha hb hc
end
theorem HeadFirst : crossroadlaw02_HeadFirst.Pure := by
  intro a0 a1 a2 s0 s1 s2
  obtain ⟨a, rfl⟩ := exBA a0
  obtain ⟨b, rfl⟩ := exBA a1
  obtain ⟨c, rfl⟩ := exBA a2
  simp only [toBA_size] at s0 s1 s2
  refine Ev.rounds (g := fun k => crossroadlaw02_HeadFirst.f k (toBA a) (toBA b) (toBA c)) ?_
  simp only [crossroadlaw02_HeadFirst.f, toBA_size]
  refine Ev.bind fit_f ?_
  have e : wrap64 (wrap64 ((a.length : Int) + (b.length : Int)) + (c.length : Int)) = ((a.length + b.length + c.length : Nat) : Int) := by
    rw [w64 (x := (a.length : Int) + (b.length : Int)) (by omega) (by omega), w64 (by omega) (by omega)]; omega
  simp only [if_true, e, Option.bind_some]
  by_cases h : a.length + b.length + c.length > 180
  · simp only [if_pos (show ((a.length + b.length + c.length : Nat) : Int) > 180 by omega)]
    exact Ev.now true
  · simp only [if_neg (show ¬ ((a.length + b.length + c.length : Nat) : Int) > 180 by omega)]
    exact first_l0 a b c (by omega)
end Go.Proofs.Ytaafeojjcfognaa.Pure

/- path's Kind and Shape as they are printed, and what they answer: in plain lists. -/
import Derived.Test.YtidkhbkndbnnjaaDoorXWordsFacts
import Derived.Test.YtidkhbkndbnnjaaDoorX5
import Derived.Test.YtidkhbkndbnnjaaDoorX8
set_option linter.unusedVariables false
set_option linter.unusedSimpArgs false
namespace Go.Proofs.YtidkhbkndbnnjaaDoor.M
open Go.RowKit Go.Proofs.YtidkhbkndbnnjaaDoorW.PrintWords Go.Proofs.YtidkhbkndbnnjaaDoor.X

theorem rdOf_mid (pre : List (List UInt8)) (w : List UInt8) (r : List (List UInt8)) : rdOf ByteArray.empty ((pre ++ w :: r).map toBA) (pre.length : Int) = toBA w := by simp [rdOf]
theorem words_len_le (b : Int) (l : List UInt8) : ∀ cur, ∀ w ∈ wordsGo b cur l, w.length ≤ cur.length + l.length := by
  induction l with
  | nil => intro cur w hw; simp only [wordsGo, List.mem_singleton] at hw; subst hw; simp
  | cons c r ih =>
    intro cur w hw
    simp only [wordsGo] at hw
    split at hw
    · rcases List.mem_cons.1 hw with rfl | hw
      · simp
      · have := ih [] w hw; simp at this ⊢; omega
    · have := ih (cur ++ [c]) w hw; simp at this ⊢; omega
theorem wordsL_len_le (b : Int) (l : List UInt8) : ∀ w ∈ wordsL b l, w.length ≤ l.length := fun w hw => by have := words_len_le b l [] w hw; simpa using this
theorem wordsL_count_le (b : Int) (l : List UInt8) : (wordsL b l).length ≤ l.length + 1 := wordsGo_len b l []

/-! ### segments -/
def slash1 : List UInt8 → Bool
  | [] => false
  | c :: _ => decide (c.toNat = 47)
abbrev SegsR := List (List UInt8) × Bool
def segsT (p : SegsR) : List ByteArray × Bool := (p.1.map toBA, p.2)
theorem tail_cut (c : UInt8) (t : List UInt8) : (toBA (c :: t)).extract 1 (c :: t).length = toBA t := by
  rw [toBA_extract]; simp
theorem beforeQ_go (b : Int) (l : List UInt8) : ∀ cur, (wordsGo b cur l).headD [] = cur ++ l.takeWhile (fun c => !decide ((c.toNat : Int) = b)) := by
  induction l with
  | nil => intro cur; simp [wordsGo]
  | cons c r ih =>
    intro cur
    by_cases h : (c.toNat : Int) = b
    · simp [wordsGo, h]
    · rw [wordsGo, if_neg h, ih]; simp [h]
theorem headD_words (b : Int) (l : List UInt8) : (wordsL b l).headD [] = l.takeWhile (fun c => !decide ((c.toNat : Int) = b)) := by
  rw [wordsL, beforeQ_go]; rfl

/-! ### Kind -/
def kindL : List UInt8 → Int
  | [] => 0
  | c :: _ => if c.toNat = 58 then 1 else if c.toNat = 42 then 2 else 0
theorem kind_f (x : List UInt8) : Ev (fun k => path_Kind.f k (toBA x)) (kindL x) := by
  cases x with
  | nil =>
    simp only [path_Kind.f, toBA_toList, if_true]
    refine Ev.step' ?_
    simp only [path_Kind.j0, Bool.false_eq_true, if_false, toBA_toList, if_true, kindL]
    exact Ev.now _
  | cons c r =>
    have hb : bt (toBA (c :: r)) 0 = (c.toNat : Int) := bt_mid [] r c
    have hne : ¬ (c :: r) = ([] : List UInt8) := by simp
    have hp : (0 : Int) < ((c :: r).length : Int) := by simp only [List.length_cons]; omega
    simp only [path_Kind.f, toBA_toList, if_neg hne, toBA_size, if_pos hp, hb, kindL]
    refine Ev.step' ?_
    by_cases h1 : c.toNat = 58
    · have e : ((c.toNat : Int) == 58) = true := by rw [h1]; rfl
      simp only [path_Kind.j0, e, if_true, if_pos h1]
      exact Ev.now _
    · have e : ((c.toNat : Int) == 58) = false := beq_eq_false_iff_ne.2 (by omega)
      simp only [path_Kind.j0, e, Bool.false_eq_true, if_false, if_neg h1, toBA_toList, if_neg hne, toBA_size, if_pos hp, hb]
      by_cases h2 : c.toNat = 42
      · simp only [if_pos h2, if_pos (show (c.toNat : Int) = 42 by omega)]
        exact Ev.now _
      · simp only [if_neg h2, if_neg (show ¬ (c.toNat : Int) = 42 by omega)]
        exact Ev.now _
theorem kindL_cases (x : List UInt8) : kindL x = 0 ∨ kindL x = 1 ∨ kindL x = 2 := by
  cases x with
  | nil => exact .inl rfl
  | cons c r =>
    by_cases h1 : c.toNat = 58
    · exact .inr (.inl (by simp [kindL, h1]))
    · by_cases h2 : c.toNat = 42
      · exact .inr (.inr (by simp [kindL, h2]))
      · exact .inl (by simp [kindL, h1, h2])

/-! ### Shape -/
def segL (x : List UInt8) : List UInt8 := if kindL x = 0 then 47 :: x else if kindL x = 1 then [47, 58] else [47, 42]
def shapeL (l : List (List UInt8)) : List UInt8 := l.flatMap segL
theorem segL_len (x : List UInt8) (h : x.length ≤ 100000) : (segL x).length ≤ 100001 := by
  unfold segL; (repeat' split) <;> simp <;> omega
theorem shape_l0 (l : List (List UInt8)) (hl : l.length ≤ 100001) (hx : ∀ x ∈ l, x.length ≤ 100000) (post : List (List UInt8)) : ∀ (pre : List (List UInt8)) (acc : List UInt8), l = pre ++ post → acc.length ≤ pre.length * 100001 →
    Ev (fun k => path_Shape.l0 k (toBA acc) (l.map toBA) (l.length : Int) (pre.length : Int)) (toBA (acc ++ shapeL post)) := by
  induction post with
  | nil =>
    intro pre acc h ha
    have hp : pre.length = l.length := by subst h; simp
    refine Ev.step' ?_
    simp only [path_Shape.l0, if_neg (show ¬ (pre.length : Int) < (l.length : Int) by omega), shapeL, List.flatMap_nil, List.append_nil]
    exact Ev.now _
  | cons x r ih =>
    intro pre acc h ha
    have hp : pre.length < l.length := by subst h; simp
    have hr : rdOf ByteArray.empty (l.map toBA) (pre.length : Int) = toBA x := by rw [h]; exact rdOf_mid _ _ _
    have hw : wrap64 ((pre.length : Int) + 1) = ((pre ++ [x]).length : Int) := by rw [w64 (by omega) (by omega)]; simp
    have hxl := hx x (by rw [h]; simp)
    have hsl := segL_len x hxl
    have s1 : (⟨#[47]⟩ : ByteArray) = toBA [47] := rfl
    have s2 : (⟨#[47, 58]⟩ : ByteArray) = toBA [47, 58] := rfl
    have s3 : (⟨#[47, 42]⟩ : ByteArray) = toBA [47, 42] := rfl
    have key := ih (pre ++ [x]) (acc ++ segL x) (by simp [h]) (by simp; omega)
    rw [show acc ++ segL x ++ shapeL r = acc ++ shapeL (x :: r) by simp [shapeL]] at key
    refine Ev.step' ?_
    simp only [path_Shape.l0, if_pos (show (pre.length : Int) < (l.length : Int) by omega), if_pos (show (0 : Int) ≤ (pre.length : Int) by omega), List.length_map, hr, hw, s1, s2, s3, toBA_append, toBA_size, List.length_append, List.length_singleton]
    refine Ev.bind (kind_f x) ?_
    unfold segL at key
    rcases kindL_cases x with h0 | h0 | h0
    · simp only [h0, if_true] at key ⊢
      simp only [if_pos (show 1 + x.length ≤ 9223372036854775807 by omega), if_pos (show acc.length + (1 + x.length) ≤ 9223372036854775807 by omega)]
      simpa using key
    · simp only [h0, if_true, if_neg (show ¬ (1 : Int) = 0 by omega)] at key ⊢
      simp only [if_pos (show acc.length + 2 ≤ 9223372036854775807 by omega)]
      simpa using key
    · simp only [h0, if_neg (show ¬ (2 : Int) = 0 by omega), if_neg (show ¬ (2 : Int) = 1 by omega)] at key ⊢
      simp only [if_pos (show acc.length + 2 ≤ 9223372036854775807 by omega)]
      simpa using key
theorem shape_f (l : List (List UInt8)) (hl : l.length ≤ 100001) (hx : ∀ x ∈ l, x.length ≤ 100000) : Ev (fun k => path_Shape.f k (l.map toBA)) (toBA (shapeL l)) := by
  have := shape_l0 l hl hx l [] [] rfl (by simp)
  simp only [path_Shape.f, List.length_map]
  exact this
end Go.Proofs.YtidkhbkndbnnjaaDoor.M

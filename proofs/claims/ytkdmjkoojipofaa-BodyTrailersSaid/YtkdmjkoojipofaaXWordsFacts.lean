/- What the words of a text are: plain lists. -/
import Derived.Test.YtkdmjkoojipofaaXAscii
set_option linter.unusedVariables false
set_option linter.unusedSimpArgs false
namespace Go.Proofs.Ytkdmjkoojipofaa.M
open Go.RowKit Go.Proofs.YtkdmjkoojipofaaW.PrintWords

def joinL (b : List UInt8) : List (List UInt8) → List UInt8
  | [] => []
  | [w] => w
  | w :: r => w ++ b ++ joinL b r
theorem joinL_cons (b w : List UInt8) (r : List (List UInt8)) (h : r ≠ []) : joinL b (w :: r) = w ++ b ++ joinL b r := by
  cases r with
  | nil => exact absurd rfl h
  | cons x r => rfl
theorem join_words (b : UInt8) (l : List UInt8) : ∀ cur, joinL [b] (wordsGo (b.toNat : Int) cur l) = cur ++ l := by
  induction l with
  | nil => intro cur; simp [wordsGo, joinL]
  | cons c r ih =>
    intro cur
    simp only [wordsGo]
    split
    · rename_i h
      rw [joinL_cons _ _ _ (wordsGo_ne _ _ _), ih, u8_inj h]
      simp
    · rw [ih]; simp
theorem words_no (b : Int) (l : List UInt8) : ∀ cur, (∀ c ∈ cur, (c.toNat : Int) ≠ b) → ∀ w ∈ wordsGo b cur l, ∀ c ∈ w, (c.toNat : Int) ≠ b := by
  induction l with
  | nil => intro cur hc w hw; simp only [wordsGo, List.mem_singleton] at hw; subst hw; exact hc
  | cons c r ih =>
    intro cur hc w hw
    simp only [wordsGo] at hw
    split at hw
    · rcases List.mem_cons.1 hw with rfl | hw
      · exact hc
      · exact ih [] (by simp) w hw
    · rename_i h
      refine ih (cur ++ [c]) ?_ w hw
      intro x hx
      rcases List.mem_append.1 hx with hx | hx
      · exact hc x hx
      · rw [List.mem_singleton.1 hx]; exact h
theorem words_count (b : Int) (l : List UInt8) : ∀ cur, (wordsGo b cur l).length = l.countP (fun c => (c.toNat : Int) = b) + 1 := by
  induction l with
  | nil => intro cur; simp [wordsGo]
  | cons c r ih =>
    intro cur
    simp only [wordsGo, List.countP_cons]
    split
    · rename_i h; simp [ih, h]
    · rename_i h; simp [ih, h]
def sizes : List (List UInt8) → Int
  | [] => 0
  | w :: r => (w.length : Int) + sizes r
theorem words_sizes (b : Int) (l : List UInt8) : ∀ cur, sizes (wordsGo b cur l) = (cur.length : Int) + (l.length : Int) - (l.countP (fun c => (c.toNat : Int) = b) : Int) := by
  induction l with
  | nil => intro cur; simp [wordsGo, sizes]
  | cons c r ih =>
    intro cur
    simp only [wordsGo, List.countP_cons]
    split
    · rename_i h; simp only [sizes, ih, h]; simp; omega
    · rename_i h; simp only [ih, h]; simp; omega
theorem sizes_nonneg (l : List (List UInt8)) : 0 ≤ sizes l := by
  induction l with
  | nil => simp [sizes]
  | cons w r ih => simp only [sizes]; omega
theorem wordsGo_nosep (b : Int) (l : List UInt8) : ∀ cur, (∀ c ∈ l, (c.toNat : Int) ≠ b) → wordsGo b cur l = [cur ++ l] := by
  induction l with
  | nil => intro cur _; simp [wordsGo]
  | cons c r ih =>
    intro cur h
    simp only [wordsGo, if_neg (h c (by simp))]
    rw [ih _ (fun x hx => h x (by simp [hx]))]
    simp
theorem wordsGo_app (b : UInt8) (l r : List UInt8) : ∀ cur, (∀ c ∈ l, (c.toNat : Int) ≠ (b.toNat : Int)) → wordsGo (b.toNat : Int) cur (l ++ b :: r) = (cur ++ l) :: wordsGo (b.toNat : Int) [] r := by
  induction l with
  | nil => intro cur _; simp [wordsGo]
  | cons c l ih =>
    intro cur h
    simp only [List.cons_append, wordsGo, if_neg (h c (by simp))]
    rw [ih _ (fun x hx => h x (by simp [hx]))]
    simp
end Go.Proofs.Ytkdmjkoojipofaa.M

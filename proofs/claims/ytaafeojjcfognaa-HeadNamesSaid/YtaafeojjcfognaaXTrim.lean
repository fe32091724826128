/- ascii.Trim as it is printed, in plain lists. -/
import Derived.Test.YtaafeojjcfognaaXAscii
import Derived.Test.YtaafeojjcfognaaX8
set_option linter.unusedVariables false
set_option linter.unusedSimpArgs false
namespace Go.Proofs.Ytaafeojjcfognaa.M
open Go.RowKit Go.Proofs.YtaafeojjcfognaaW.PrintWords Go.Proofs.Ytaafeojjcfognaa.X

def blankB (c : UInt8) : Bool := c.toNat == 32 || c.toNat == 9
def lstrip (l : List UInt8) : List UInt8 := l.dropWhile blankB
def rstrip (l : List UInt8) : List UInt8 := (l.reverse.dropWhile blankB).reverse
def trimL (l : List UInt8) : List UInt8 := rstrip (lstrip l)
theorem rstrip_nil : rstrip [] = [] := rfl
theorem rstrip_snoc (l : List UInt8) (c : UInt8) : rstrip (l ++ [c]) = if blankB c = true then rstrip l else l ++ [c] := by
  simp only [rstrip, List.reverse_append, List.reverse_cons, List.reverse_nil, List.nil_append, List.cons_append, List.dropWhile_cons]
  split <;> simp
theorem snoc_cases (l : List UInt8) : l = [] ∨ ∃ i c, l = i ++ [c] := by
  rcases List.eq_nil_or_concat l with h | ⟨i, c, h⟩
  · exact .inl h
  · exact .inr ⟨i, c, by simpa using h⟩
theorem trim_l1 (n : Nat) : ∀ l : List UInt8, l.length = n → l.length ≤ 4611686018427387904 → Ev (fun k => ascii_Trim.l1 k (toBA l)) (toBA (rstrip l)) := by
  induction n with
  | zero =>
    intro l h _
    obtain rfl : l = [] := List.eq_nil_of_length_eq_zero h
    refine Ev.step' ?_
    simp only [ascii_Trim.l1, toBA_toList, if_true]
    exact Ev.now _
  | succ n ih =>
    intro l h hl
    rcases snoc_cases l with rfl | ⟨i, c, rfl⟩
    · simp at h
    have hi : i.length = n := by simp at h; omega
    have hl' : (i ++ [c]).length = i.length + 1 := by simp
    have hw : wrap64 (((i ++ [c]).length : Int) - 1) = (i.length : Int) := by rw [w64 (by omega) (by omega)]; simp
    have hb : bt (toBA (i ++ [c])) (i.length : Int) = (c.toNat : Int) := bt_mid _ _ _
    have hx : (toBA (i ++ [c])).extract 0 (i.length : Int).toNat = toBA i := by rw [toBA_extract]; simp
    have hne : ¬ (i ++ [c]) = ([] : List UInt8) := by simp
    refine Ev.step' ?_
    simp only [ascii_Trim.l1, toBA_toList, if_neg hne, toBA_size, hw, if_pos (show (0 : Int) ≤ (i.length : Int) by omega), if_pos (show (i.length : Int) < ((i ++ [c]).length : Int) by omega), hb, if_pos (show (i.length : Int) ≤ ((i ++ [c]).length : Int) by omega), hx]
    rw [rstrip_snoc]
    by_cases h1 : (c.toNat : Int) = 32
    · have e : blankB c = true := by simp [blankB]; omega
      simp only [if_pos h1, e, if_true]
      exact ih i hi (by omega)
    · by_cases h2 : (c.toNat : Int) = 9
      · have e : blankB c = true := by simp [blankB]; omega
        simp only [if_neg h1, if_pos h2, e, if_true]
        exact ih i hi (by omega)
      · have e : blankB c = false := by simp [blankB]; omega
        simp only [if_neg h1, if_neg h2, e, Bool.false_eq_true, if_false]
        exact Ev.now _
theorem trim_l0 (l : List UInt8) (hl : l.length ≤ 4611686018427387904) : Ev (fun k => ascii_Trim.l0 k (toBA l)) (toBA (trimL l)) := by
  have j1 : ∀ l : List UInt8, l.length ≤ 4611686018427387904 → Ev (fun k => ascii_Trim.j1 k (toBA l)) (toBA (rstrip l)) := by
    intro l hl
    refine Ev.step' ?_
    simp only [ascii_Trim.j1]
    exact trim_l1 l.length l rfl hl
  induction l with
  | nil =>
    refine Ev.step' ?_
    simp only [ascii_Trim.l0, toBA_toList, if_true]
    exact j1 [] (by simp)
  | cons c r ih =>
    have hb : bt (toBA (c :: r)) 0 = (c.toNat : Int) := bt_mid [] r c
    have hx : (toBA (c :: r)).extract 1 (toBA (c :: r)).size = toBA r := by rw [toBA_extract]; simp
    rw [toBA_size] at hx
    have hlen : (c :: r).length = r.length + 1 := rfl
    refine Ev.step' ?_
    simp only [ascii_Trim.l0, toBA_toList, if_neg (show ¬ (c :: r) = ([] : List UInt8) by simp), toBA_size, if_pos (show (0 : Int) < ((c :: r).length : Int) by omega), hb, if_pos (show (1 : Int) ≤ ((c :: r).length : Int) by omega), hx]
    simp only [trimL, lstrip, List.dropWhile_cons]
    by_cases h1 : (c.toNat : Int) = 32
    · have e : blankB c = true := by simp [blankB]; omega
      simp only [if_pos h1, e, if_true]
      exact ih (by omega)
    · by_cases h2 : (c.toNat : Int) = 9
      · have e : blankB c = true := by simp [blankB]; omega
        simp only [if_neg h1, if_pos h2, e, if_true]
        exact ih (by omega)
      · have e : blankB c = false := by simp [blankB]; omega
        simp only [if_neg h1, if_neg h2, e, Bool.false_eq_true, if_false]
        exact j1 (c :: r) hl
theorem trim_f (l : List UInt8) (hl : l.length ≤ 4611686018427387904) : Ev (fun k => ascii_Trim.f k (toBA l)) (toBA (trimL l)) := by
  simpa only [ascii_Trim.f] using trim_l0 l hl

/-! ### what Trim does -/
theorem rstrip_len (l : List UInt8) : (rstrip l).length ≤ l.length := by
  simp only [rstrip, List.length_reverse]
  have := (List.dropWhile_sublist blankB (l := l.reverse)).length_le
  simpa using this
theorem lstrip_len (l : List UInt8) : (lstrip l).length ≤ l.length := (List.dropWhile_sublist blankB).length_le
theorem trim_len (l : List UInt8) : (trimL l).length ≤ l.length := Nat.le_trans (rstrip_len _) (lstrip_len _)
theorem lstrip_head (l : List UInt8) (c : UInt8) (r : List UInt8) (h : lstrip l = c :: r) : blankB c = false := by
  induction l with
  | nil => simp [lstrip] at h
  | cons d s ih =>
    simp only [lstrip, List.dropWhile_cons] at h
    split at h
    · exact ih h
    · rename_i hd
      injection h with h1 h2
      subst h1
      simpa using hd
theorem lstrip_of_head (c : UInt8) (r : List UInt8) (h : blankB c = false) : lstrip (c :: r) = c :: r := by simp [lstrip, List.dropWhile_cons, h]
theorem rstrip_last (l i : List UInt8) (c : UInt8) (h : rstrip l = i ++ [c]) : blankB c = false := by
  have h2 : lstrip l.reverse = c :: i.reverse := by
    have := congrArg List.reverse h
    simpa [rstrip, lstrip] using this
  exact lstrip_head _ _ _ h2
theorem rstrip_of_last (i : List UInt8) (c : UInt8) (h : blankB c = false) : rstrip (i ++ [c]) = i ++ [c] := by rw [rstrip_snoc, h]; rfl
/-- A first sign that stays stays first. -/
theorem rstrip_cons (c : UInt8) (r : List UInt8) (h : blankB c = false) : ∃ r', rstrip (c :: r) = c :: r' := by
  suffices ∀ n, ∀ r : List UInt8, r.length = n → ∃ r', rstrip (c :: r) = c :: r' from this _ r rfl
  intro n
  induction n with
  | zero =>
    intro r hr
    obtain rfl : r = [] := List.eq_nil_of_length_eq_zero hr
    exact ⟨[], rstrip_of_last [] c h⟩
  | succ n ih =>
    intro r hr
    rcases snoc_cases r with rfl | ⟨i, d, rfl⟩
    · simp at hr
    · rw [← List.cons_append, rstrip_snoc]
      split
      · exact ih i (by simp at hr; omega)
      · exact ⟨i ++ [d], rfl⟩
theorem rstrip_idem (l : List UInt8) : rstrip (rstrip l) = rstrip l := by
  rcases snoc_cases (rstrip l) with h | ⟨i, c, h⟩
  · rw [h]; rfl
  · rw [h, rstrip_of_last _ _ (rstrip_last _ _ _ h)]
/-- It begins with no blank and ends with none. -/
theorem trim_ends (l : List UInt8) : trimL l = [] ∨ (∃ c r, trimL l = c :: r ∧ blankB c = false) ∧ ∃ i d, trimL l = i ++ [d] ∧ blankB d = false := by
  rcases snoc_cases (trimL l) with h | ⟨i, d, h⟩
  · exact .inl h
  · refine .inr ⟨?_, i, d, h, rstrip_last _ _ _ h⟩
    cases hl : lstrip l with
    | nil => simp [trimL, hl, rstrip_nil] at h
    | cons c r =>
      have hc := lstrip_head l c r hl
      obtain ⟨r', hr⟩ := rstrip_cons c r hc
      exact ⟨c, r', by rw [trimL, hl, hr], hc⟩
theorem trim_of_ends (l : List UInt8) (h : l = [] ∨ (∃ c r, l = c :: r ∧ blankB c = false) ∧ ∃ i d, l = i ++ [d] ∧ blankB d = false) : trimL l = l := by
  rcases h with rfl | ⟨⟨c, r, h1, hc⟩, i, d, h2, hd⟩
  · rfl
  · rw [trimL, show lstrip l = l by rw [h1]; exact lstrip_of_head c r hc, h2, rstrip_of_last i d hd]
theorem trim_idem (l : List UInt8) : trimL (trimL l) = trimL l := trim_of_ends _ (trim_ends l)
theorem lstrip_blank (a l : List UInt8) (h : a.all blankB = true) : lstrip (a ++ l) = lstrip l := by
  induction a with
  | nil => rfl
  | cons c r ih =>
    simp only [List.all_cons, Bool.and_eq_true] at h
    simp only [lstrip, List.cons_append, List.dropWhile_cons, h.1, if_true]
    exact ih h.2
theorem rstrip_blank (l b : List UInt8) (h : b.all blankB = true) : rstrip (l ++ b) = rstrip l := by
  have : rstrip (l ++ b) = (lstrip (b.reverse ++ l.reverse)).reverse := by simp [rstrip, lstrip]
  rw [this, lstrip_blank _ _ (by rw [List.all_reverse]; exact h)]
  rfl
theorem lstrip_all (l : List UInt8) (h : l.all blankB = true) : lstrip l = [] := by
  have := lstrip_blank l [] h
  simpa [lstrip] using this
theorem all_of_lstrip (l : List UInt8) (h : lstrip l = []) : l.all blankB = true := by
  induction l with
  | nil => rfl
  | cons c r ih =>
    simp only [lstrip, List.dropWhile_cons] at h
    split at h
    · rename_i hc
      simp only [List.all_cons, hc, Bool.true_and]
      exact ih h
    · cases h
theorem trim_nil_iff (l : List UInt8) : trimL l = [] ↔ l.all blankB = true := by
  constructor
  · intro h
    cases hl : lstrip l with
    | nil => exact all_of_lstrip l hl
    | cons c r =>
      obtain ⟨r', hr⟩ := rstrip_cons c r (lstrip_head l c r hl)
      rw [trimL, hl, hr] at h
      cases h
  · intro h
    rw [trimL, lstrip_all l h]; rfl
theorem trim_pad (a l b : List UInt8) (ha : a.all blankB = true) (hb : b.all blankB = true) : trimL (a ++ l ++ b) = trimL l := by
  rw [trimL, List.append_assoc, lstrip_blank a _ ha]
  by_cases hl : l.all blankB = true
  · rw [(trim_nil_iff l).2 hl]
    exact (trim_nil_iff (l ++ b)).2 (by rw [List.all_append, hl, hb]; rfl)
  · have : lstrip (l ++ b) = lstrip l ++ b := by
      simp only [lstrip]
      rw [List.dropWhile_append]
      have hne : lstrip l ≠ [] := fun h => hl ((trim_nil_iff l).1 (by rw [trimL, h]; rfl))
      rw [if_neg (by simpa [lstrip] using hne)]
    rw [this, rstrip_blank _ _ hb]
    rfl
end Go.Proofs.Ytaafeojjcfognaa.M

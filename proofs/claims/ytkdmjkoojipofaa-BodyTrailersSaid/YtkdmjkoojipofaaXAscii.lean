/- ascii's functions, as they are printed, and what they answer: in plain lists. -/
import Derived.Test.YtkdmjkoojipofaaXM
import Derived.Test.YtkdmjkoojipofaaX8
import Derived.Test.YtkdmjkoojipofaaX3
import Derived.Test.YtkdmjkoojipofaaX4
import Derived.Test.YtkdmjkoojipofaaX7
import Derived.Test.YtkdmjkoojipofaaX2
set_option linter.unusedVariables false
set_option linter.unusedSimpArgs false
namespace Go.Proofs.Ytkdmjkoojipofaa.M
open Go.RowKit Go.Proofs.YtkdmjkoojipofaaW.PrintWords Go.Proofs.Ytkdmjkoojipofaa.X

/-! ### Token -/
def letterB (n : Nat) : Bool := decide (65 ≤ n ∧ n ≤ 90 ∨ 97 ≤ n ∧ n ≤ 122)
def markN (n : Nat) : Bool := decide (n ∈ [33, 35, 36, 37, 38, 39, 42, 43, 45, 46, 94, 95, 124, 126, 96]) || letterB n || decide (48 ≤ n ∧ n ≤ 57)
def markB (c : UInt8) : Bool := markN c.toNat
theorem mark_fin : ∀ n : Fin 256, ascii_mark.f (n.val : Int) = some (markN n.val) := by decide +kernel
theorem mark_f (c : UInt8) : ascii_mark.f (c.toNat : Int) = some (markB c) := mark_fin ⟨c.toNat, c.toNat_lt⟩
def tokenL (l : List UInt8) : Bool := l.all markB && !l.isEmpty
theorem token_l0 (l : List UInt8) (hl : l.length ≤ 4611686018427387904) (rest : List UInt8) : ∀ pre : List UInt8, l = pre ++ rest →
    Ev (fun k => ascii_Token.l0 k (toBA l) (l.length : Int) (pre.length : Int)) (rest.all markB && !l.isEmpty) := by
  induction rest with
  | nil =>
    intro pre h
    refine Ev.step' ?_
    have h1 : ¬ (pre.length : Int) < (l.length : Int) := by subst h; simp
    simp only [ascii_Token.l0, if_neg h1, toBA_toList]
    exact Ev.now _
  | cons c r ih =>
    intro pre h
    refine Ev.step' ?_
    have h1 : (pre.length : Int) < (l.length : Int) := by subst h; simp; omega
    have hb : bt (toBA l) (pre.length : Int) = (c.toNat : Int) := by subst h; exact bt_mid _ _ _
    have hw : wrap64 ((pre.length : Int) + 1) = ((pre ++ [c]).length : Int) := by rw [w64 (by omega) (by omega)]; simp
    simp only [ascii_Token.l0, if_pos h1, toBA_size, if_pos (show (0 : Int) ≤ (pre.length : Int) by omega), hb, mark_f, Option.bind_some, hw]
    have := ih (pre ++ [c]) (by simp [h])
    cases hm : markB c with
    | true => simpa [hm] using this
    | false => simpa [hm] using Ev.now false
theorem token_f (l : List UInt8) (hl : l.length ≤ 4611686018427387904) : Ev (fun k => ascii_Token.f k (toBA l)) (tokenL l) := by
  have := token_l0 l hl l [] rfl
  simpa [ascii_Token.f, tokenL] using this

/-! ### Number -/
def digN (b : Int) (n : Nat) : Int :=
  let d : Int := if 48 ≤ n ∧ n ≤ 57 then n - 48 else if 97 ≤ n ∧ n ≤ 102 then n - 87 else if 65 ≤ n ∧ n ≤ 70 then n - 55 else -1
  if d ≥ b then -1 else d
def digB (b : Int) (c : UInt8) : Int := digN b c.toNat
theorem dig_fin10 : ∀ n : Fin 256, ascii_digit.f 3 (n.val : Int) 10 = some (digN 10 n.val) := by decide +kernel
theorem dig_fin16 : ∀ n : Fin 256, ascii_digit.f 3 (n.val : Int) 16 = some (digN 16 n.val) := by decide +kernel
theorem digit_f (b : Int) (hb : b = 10 ∨ b = 16) (c : UInt8) : Ev (fun k => ascii_digit.f k (c.toNat : Int) b) (digB b c) := by
  refine Ev.of (fun k => ascii_digit.mono _ _ k) (k := 3) ?_
  rcases hb with rfl | rfl
  · exact dig_fin10 ⟨c.toNat, c.toNat_lt⟩
  · exact dig_fin16 ⟨c.toNat, c.toNat_lt⟩
theorem digB_lt (b : Int) (hb : b = 10 ∨ b = 16) (c : UInt8) : -1 ≤ digB b c ∧ digB b c < b := by
  have := u8_lt c
  unfold digB digN
  dsimp only
  rcases hb with rfl | rfl <;> (repeat' split) <;> omega
def numGo (b : Int) : Int → List UInt8 → Option Int
  | x, [] => some x
  | x, c :: r => if digB b c < 0 then none else if x * b + digB b c > 1073741824 then none else numGo b (x * b + digB b c) r
def numL (b : Int) (l : List UInt8) : Int × Bool := match numGo b 0 l with
  | none => (0, false)
  | some x => (x, !l.isEmpty)
theorem number_l0 (b : Int) (hb : b = 10 ∨ b = 16) (l : List UInt8) (hl : l.length ≤ 4611686018427387904) (rest : List UInt8) : ∀ (pre : List UInt8) (x : Int), l = pre ++ rest → 0 ≤ x → x ≤ 1073741824 →
    Ev (fun k => ascii_Number.l0 k (toBA l) b x (l.length : Int) (pre.length : Int)) (match numGo b x rest with
      | none => (0, false)
      | some x => (x, !l.isEmpty)) := by
  induction rest with
  | nil =>
    intro pre x h h0 hx
    refine Ev.step' ?_
    have h1 : ¬ (pre.length : Int) < (l.length : Int) := by subst h; simp
    simp only [ascii_Number.l0, if_neg h1, toBA_toList]
    exact Ev.now _
  | cons c r ih =>
    intro pre x h h0 hx
    refine Ev.step' ?_
    have h1 : (pre.length : Int) < (l.length : Int) := by subst h; simp; omega
    have hbt : bt (toBA l) (pre.length : Int) = (c.toNat : Int) := by subst h; exact bt_mid _ _ _
    have hw : wrap64 ((pre.length : Int) + 1) = ((pre ++ [c]).length : Int) := by rw [w64 (by omega) (by omega)]; simp
    have hd := digB_lt b hb c
    have hm : 0 ≤ x * b ∧ x * b ≤ 17179869184 := by rcases hb with rfl | rfl <;> omega
    have hw2 : wrap64 (wrap64 (x * b) + digB b c) = x * b + digB b c := by rw [w64 (x := x * b) (by omega) (by omega), w64 (by omega) (by omega)]
    simp only [ascii_Number.l0, if_pos h1, toBA_size, if_pos (show (0 : Int) ≤ (pre.length : Int) by omega), hbt]
    refine Ev.bind (digit_f b hb c) ?_
    simp only [hw, hw2]
    by_cases hneg : digB b c < 0
    · simpa [numGo, hneg] using Ev.now (0, false)
    · simp only [if_neg hneg, numGo]
      by_cases hg : x * b + digB b c > 1073741824
      · simpa [hg] using Ev.now (0, false)
      · simp only [if_neg hg]
        exact ih (pre ++ [c]) _ (by simp [h]) (by omega) (by omega)
theorem number_f (b : Int) (hb : b = 10 ∨ b = 16) (l : List UInt8) (hl : l.length ≤ 4611686018427387904) : Ev (fun k => ascii_Number.f k (toBA l) b) (numL b l) := by
  have := number_l0 b hb l hl l [] 0 rfl (by omega) (by omega)
  simpa [ascii_Number.f, numL] using this
theorem numGo_bd (b : Int) (hb : b = 10 ∨ b = 16) (l : List UInt8) : ∀ x y : Int, 0 ≤ x → x ≤ 1073741824 → numGo b x l = some y → 0 ≤ y ∧ y ≤ 1073741824 := by
  induction l with
  | nil => intro x y h0 h1 h; simp only [numGo, Option.some.injEq] at h; omega
  | cons c r ih =>
    intro x y h0 h1 h
    simp only [numGo] at h
    have hd := digB_lt b hb c
    have hm : 0 ≤ x * b := by rcases hb with rfl | rfl <;> omega
    split at h
    · cases h
    · split at h
      · cases h
      · exact ih _ _ (by omega) (by omega) h
theorem numL_bd (b : Int) (hb : b = 10 ∨ b = 16) (l : List UInt8) : 0 ≤ (numL b l).1 ∧ (numL b l).1 ≤ 1073741824 := by
  unfold numL
  split
  · simp
  · rename_i x hx
    exact numGo_bd b hb l 0 x (by omega) (by omega) hx

/-! ### Words -/
def wordsGo (b : Int) : List UInt8 → List UInt8 → List (List UInt8)
  | cur, [] => [cur]
  | cur, c :: r => if (c.toNat : Int) = b then cur :: wordsGo b [] r else wordsGo b (cur ++ [c]) r
def wordsL (b : Int) (l : List UInt8) : List (List UInt8) := wordsGo b [] l
theorem wordsGo_len (b : Int) (l : List UInt8) : ∀ cur, (wordsGo b cur l).length ≤ l.length + 1 := by
  induction l with
  | nil => intro cur; simp [wordsGo]
  | cons c r ih =>
    intro cur
    simp only [wordsGo]
    split
    · simpa using ih []
    · have := ih (cur ++ [c]); simp; omega
theorem wordsGo_ne (b : Int) (l : List UInt8) : ∀ cur, wordsGo b cur l ≠ [] := by
  induction l with
  | nil => intro cur; simp [wordsGo]
  | cons c r ih =>
    intro cur
    simp only [wordsGo]
    split
    · simp
    · exact ih _
theorem mid_extract (don cur rest : List UInt8) (i : Int) (hi : i = ((don ++ cur).length : Int)) : (toBA (don ++ cur ++ rest)).extract (don.length : Int).toNat i.toNat = toBA cur := by
  subst hi
  rw [toBA_extract]
  congr 1
  simp only [Int.toNat_natCast, List.append_assoc, List.length_append, List.drop_left, Nat.add_sub_cancel_left, List.take_left]
theorem words_l0 (b : Int) (l : List UInt8) (hl : l.length ≤ 4611686018427) (rest : List UInt8) : ∀ (don cur : List UInt8) (acc : List ByteArray), l = don ++ cur ++ rest → acc.length ≤ don.length →
    Ev (fun k => ascii_Words.l0 k (toBA l) b acc (don.length : Int) ((l.length : Int) + 1) ((don ++ cur).length : Int)) (acc ++ (wordsGo b cur rest).map toBA) := by
  induction rest with
  | nil =>
    intro don cur acc h ha
    have hn : ((don ++ cur).length : Int) = (l.length : Int) := by subst h; simp
    have hx : (toBA l).extract (don.length : Int).toNat ((l.length : Int)).toNat = toBA cur := by rw [h]; exact mid_extract don cur [] _ (by simp)
    have hd : don.length ≤ l.length := by subst h; simp
    have hw : wrap64 ((l.length : Int) + 1) = (l.length : Int) + 1 := w64 (by omega) (by omega)
    rw [hn]
    refine Ev.step' ?_
    simp only [ascii_Words.l0, toBA_size, if_pos (show (l.length : Int) < (l.length : Int) + 1 by omega), if_true, if_pos (show (0 : Int) ≤ (don.length : Int) by omega), if_pos (show (don.length : Int) ≤ (l.length : Int) by omega), if_pos (show (l.length : Int) ≤ (l.length : Int) by omega), if_pos (show acc.length < 8796093022208 by omega), hx, hw]
    refine Ev.step' ?_
    simp only [ascii_Words.l0, if_neg (show ¬ (l.length : Int) + 1 < (l.length : Int) + 1 by omega), wordsGo, List.map_cons, List.map_nil]
    exact Ev.now _
  | cons c r ih =>
    intro don cur acc h ha
    have hlt : ((don ++ cur).length : Int) < (l.length : Int) := by subst h; simp; omega
    have hbt : bt (toBA l) ((don ++ cur).length : Int) = (c.toNat : Int) := by subst h; exact bt_mid _ _ _
    have hx : (toBA l).extract (don.length : Int).toNat (((don ++ cur).length : Int)).toNat = toBA cur := by rw [h]; exact mid_extract don cur (c :: r) _ rfl
    have hd : don.length ≤ (don ++ cur).length := by simp
    have hw : wrap64 (((don ++ cur).length : Int) + 1) = ((don ++ cur).length : Int) + 1 := w64 (by omega) (by omega)
    refine Ev.step' ?_
    simp only [ascii_Words.l0, toBA_size, if_pos (show ((don ++ cur).length : Int) < (l.length : Int) + 1 by omega), if_neg (show ¬ ((don ++ cur).length : Int) = (l.length : Int) by omega), if_pos (show (0 : Int) ≤ ((don ++ cur).length : Int) by omega), if_pos hlt, hbt, hw, hx]
    by_cases hc : (c.toNat : Int) = b
    · simp only [if_pos hc, if_pos (show (0 : Int) ≤ (don.length : Int) by omega), if_pos (show (don.length : Int) ≤ ((don ++ cur).length : Int) by omega), if_pos (show ((don ++ cur).length : Int) ≤ (l.length : Int) by omega), if_pos (show acc.length < 8796093022208 by omega), wordsGo]
      have := ih (don ++ cur ++ [c]) [] (acc ++ [toBA cur]) (by simp [h]) (by simp; omega)
      have e1 : ((don ++ cur ++ [c]).length : Int) = ((don ++ cur).length : Int) + 1 := by simp; omega
      rw [List.append_nil, e1] at this
      simpa only [List.append_assoc, List.cons_append, List.nil_append, List.map_cons] using this
    · simp only [if_neg hc, wordsGo]
      have := ih don (cur ++ [c]) acc (by simp [h]) ha
      have e1 : ((don ++ (cur ++ [c])).length : Int) = ((don ++ cur).length : Int) + 1 := by simp; omega
      rw [e1] at this
      exact this
theorem words_f (b : Int) (l : List UInt8) (hl : l.length ≤ 4611686018427) : Ev (fun k => ascii_Words.f k (toBA l) b) ((wordsL b l).map toBA) := by
  have := words_l0 b l hl l [] [] [] rfl (by simp)
  have hw : wrap64 ((l.length : Int) + 1) = (l.length : Int) + 1 := w64 (by omega) (by omega)
  simpa [ascii_Words.f, wordsL, hw] using this
end Go.Proofs.Ytkdmjkoojipofaa.M

/- ascii's functions, as they are printed, and what they answer: in plain lists. -/
import Derived.Test.YtidkhbkndbnnjaaDoorXM
import Derived.Test.YtidkhbkndbnnjaaDoorX4
import Derived.Test.YtidkhbkndbnnjaaDoorX6
import Derived.Test.YtidkhbkndbnnjaaDoorX3
set_option linter.unusedVariables false
set_option linter.unusedSimpArgs false
namespace Go.Proofs.YtidkhbkndbnnjaaDoor.M
open Go.RowKit Go.Proofs.YtidkhbkndbnnjaaDoorW.PrintWords Go.Proofs.YtidkhbkndbnnjaaDoor.X

/-! ### Token -/
def letterB (n : Nat) : Bool := decide (65 ≤ n ∧ n ≤ 90 ∨ 97 ≤ n ∧ n ≤ 122)
def markN (n : Nat) : Bool := decide (n ∈ [33, 35, 36, 37, 38, 39, 42, 43, 45, 46, 94, 95, 124, 126, 96]) || letterB n || decide (48 ≤ n ∧ n ≤ 57)
def markB (c : UInt8) : Bool := markN c.toNat
theorem mark_fin : ∀ n : Fin 256, ascii_mark.f (n.val : Int) = some (markN n.val) := by decide +kernel
theorem mark_f (c : UInt8) : ascii_mark.f (c.toNat : Int) = some (markB c) := mark_fin ⟨c.toNat, c.toNat_lt⟩
def tokenL (l : List UInt8) : Bool := l.all markB && !l.isEmpty
theorem token_l0 (l : List UInt8) (hl : l.length ≤ 4611686018427387904) (rest : List UInt8) : ∀ pre : List UInt8, l = pre ++ rest →
    Ev (fun k => ascii_Token.l0 k (toBA l) (l.length : Int) (pre.length : Int)) (rest.all markB && !l.isEmpty) := by
  induction rest with
  | nil =>
    intro pre h
    refine Ev.step' ?_
    have h1 : ¬ (pre.length : Int) < (l.length : Int) := by subst h; simp
    simp only [ascii_Token.l0, if_neg h1, toBA_toList]
    exact Ev.now _
  | cons c r ih =>
    intro pre h
    refine Ev.step' ?_
    have h1 : (pre.length : Int) < (l.length : Int) := by subst h; simp; omega
    have hb : bt (toBA l) (pre.length : Int) = (c.toNat : Int) := by subst h; exact bt_mid _ _ _
    have hw : wrap64 ((pre.length : Int) + 1) = ((pre ++ [c]).length : Int) := by rw [w64 (by omega) (by omega)]; simp
    simp only [ascii_Token.l0, if_pos h1, toBA_size, if_pos (show (0 : Int) ≤ (pre.length : Int) by omega), hb, mark_f, Option.bind_some, hw]
    have := ih (pre ++ [c]) (by simp [h])
    cases hm : markB c with
    | true => simpa [hm] using this
    | false => simpa [hm] using Ev.now false
theorem token_f (l : List UInt8) (hl : l.length ≤ 4611686018427387904) : Ev (fun k => ascii_Token.f k (toBA l)) (tokenL l) := by
  have := token_l0 l hl l [] rfl
  simpa [ascii_Token.f, tokenL] using this

/-! ### Words -/
def wordsGo (b : Int) : List UInt8 → List UInt8 → List (List UInt8)
  | cur, [] => [cur]
  | cur, c :: r => if (c.toNat : Int) = b then cur :: wordsGo b [] r else wordsGo b (cur ++ [c]) r
def wordsL (b : Int) (l : List UInt8) : List (List UInt8) := wordsGo b [] l
theorem wordsGo_len (b : Int) (l : List UInt8) : ∀ cur, (wordsGo b cur l).length ≤ l.length + 1 := by
  induction l with
  | nil => intro cur; simp [wordsGo]
  | cons c r ih =>
    intro cur
    simp only [wordsGo]
    split
    · simpa using ih []
    · have := ih (cur ++ [c]); simp; omega
theorem wordsGo_ne (b : Int) (l : List UInt8) : ∀ cur, wordsGo b cur l ≠ [] := by
  induction l with
  | nil => intro cur; simp [wordsGo]
  | cons c r ih =>
    intro cur
    simp only [wordsGo]
    split
    · simp
    · exact ih _
theorem mid_extract (don cur rest : List UInt8) (i : Int) (hi : i = ((don ++ cur).length : Int)) : (toBA (don ++ cur ++ rest)).extract (don.length : Int).toNat i.toNat = toBA cur := by
  subst hi
  rw [toBA_extract]
  congr 1
  simp only [Int.toNat_natCast, List.append_assoc, List.length_append, List.drop_left, Nat.add_sub_cancel_left, List.take_left]
theorem words_l0 (b : Int) (l : List UInt8) (hl : l.length ≤ 4611686018427) (rest : List UInt8) : ∀ (don cur : List UInt8) (acc : List ByteArray), l = don ++ cur ++ rest → acc.length ≤ don.length →
    Ev (fun k => ascii_Words.l0 k (toBA l) b acc (don.length : Int) ((l.length : Int) + 1) ((don ++ cur).length : Int)) (acc ++ (wordsGo b cur rest).map toBA) := by
  induction rest with
  | nil =>
    intro don cur acc h ha
    have hn : ((don ++ cur).length : Int) = (l.length : Int) := by subst h; simp
    have hx : (toBA l).extract (don.length : Int).toNat ((l.length : Int)).toNat = toBA cur := by rw [h]; exact mid_extract don cur [] _ (by simp)
    have hd : don.length ≤ l.length := by subst h; simp
    have hw : wrap64 ((l.length : Int) + 1) = (l.length : Int) + 1 := w64 (by omega) (by omega)
    rw [hn]
    refine Ev.step' ?_
    simp only [ascii_Words.l0, toBA_size, if_pos (show (l.length : Int) < (l.length : Int) + 1 by omega), if_true, if_pos (show (0 : Int) ≤ (don.length : Int) by omega), if_pos (show (don.length : Int) ≤ (l.length : Int) by omega), if_pos (show (l.length : Int) ≤ (l.length : Int) by omega), if_pos (show acc.length < 8796093022208 by omega), hx, hw]
    refine Ev.step' ?_
    simp only [ascii_Words.l0, if_neg (show ¬ (l.length : Int) + 1 < (l.length : Int) + 1 by omega), wordsGo, List.map_cons, List.map_nil]
    exact Ev.now _
  | cons c r ih =>
    intro don cur acc h ha
    have hlt : ((don ++ cur).length : Int) < (l.length : Int) := by subst h; simp; omega
    have hbt : bt (toBA l) ((don ++ cur).length : Int) = (c.toNat : Int) := by subst h; exact bt_mid _ _ _
    have hx : (toBA l).extract (don.length : Int).toNat (((don ++ cur).length : Int)).toNat = toBA cur := by rw [h]; exact mid_extract don cur (c :: r) _ rfl
    have hd : don.length ≤ (don ++ cur).length := by simp
    have hw : wrap64 (((don ++ cur).length : Int) + 1) = ((don ++ cur).length : Int) + 1 := w64 (by omega) (by omega)
    refine Ev.step' ?_
    simp only [ascii_Words.l0, toBA_size, if_pos (show ((don ++ cur).length : Int) < (l.length : Int) + 1 by omega), if_neg (show ¬ ((don ++ cur).length : Int) = (l.length : Int) by omega), if_pos (show (0 : Int) ≤ ((don ++ cur).length : Int) by omega), if_pos hlt, hbt, hw, hx]
    by_cases hc : (c.toNat : Int) = b
    · simp only [if_pos hc, if_pos (show (0 : Int) ≤ (don.length : Int) by omega), if_pos (show (don.length : Int) ≤ ((don ++ cur).length : Int) by omega), if_pos (show ((don ++ cur).length : Int) ≤ (l.length : Int) by omega), if_pos (show acc.length < 8796093022208 by omega), wordsGo]
      have := ih (don ++ cur ++ [c]) [] (acc ++ [toBA cur]) (by simp [h]) (by simp; omega)
      have e1 : ((don ++ cur ++ [c]).length : Int) = ((don ++ cur).length : Int) + 1 := by simp; omega
      rw [List.append_nil, e1] at this
      simpa only [List.append_assoc, List.cons_append, List.nil_append, List.map_cons] using this
    · simp only [if_neg hc, wordsGo]
      have := ih don (cur ++ [c]) acc (by simp [h]) ha
      have e1 : ((don ++ (cur ++ [c])).length : Int) = ((don ++ cur).length : Int) + 1 := by simp; omega
      rw [e1] at this
      exact this
theorem words_f (b : Int) (l : List UInt8) (hl : l.length ≤ 4611686018427) : Ev (fun k => ascii_Words.f k (toBA l) b) ((wordsL b l).map toBA) := by
  have := words_l0 b l hl l [] [] [] rfl (by simp)
  have hw : wrap64 ((l.length : Int) + 1) = (l.length : Int) + 1 := w64 (by omega) (by omega)
  simpa [ascii_Words.f, wordsL, hw] using this
end Go.Proofs.YtidkhbkndbnnjaaDoor.M

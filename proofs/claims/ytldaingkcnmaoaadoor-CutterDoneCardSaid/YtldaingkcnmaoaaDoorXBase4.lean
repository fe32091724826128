-- Made smaller by wip/squeeze.py out of this claim's texts. Not trusted: Lean checks it.
import Derived.OpenShut
import Derived.Test.YtldaingkcnmaoaaDoorX16
import Derived.Test.YtldaingkcnmaoaaDoorX6
import Derived.Test.YtldaingkcnmaoaaDoorXCutW
set_option linter.unusedVariables false
set_option linter.unusedSimpArgs false
namespace Go.Proofs.YtldaingkcnmaoaaDoor.M
open Go.RowKit Go.Proofs.YtldaingkcnmaoaaDoorW.PrintWords
def toBA (l : List UInt8) : ByteArray := ⟨l.toArray⟩
theorem toBA_data (s : ByteArray) : toBA s.data.toList = s := by cases s; simp [toBA]
@[simp] theorem toBA_size (l : List UInt8) : (toBA l).size = l.length := by simp [toBA, ByteArray.size]
@[simp] theorem toBA_dl (l : List UInt8) : (toBA l).data.toList = l := by simp [toBA]
@[simp] theorem toBA_toList (l : List UInt8) : (toBA l).toList = l := by rw [Lib.toList_data]; simp
theorem ba_ext {a b : ByteArray} (h : a.data.toList = b.data.toList) : a = b := by rw [← toBA_data a, ← toBA_data b, h]
@[simp] theorem toBA_append (a b : List UInt8) : toBA a ++ toBA b = toBA (a ++ b) := ba_ext (by simp [toBA])
@[simp] theorem toBA_extract (l : List UInt8) (a b : Nat) : (toBA l).extract a b = toBA ((l.drop a).take (b - a)) := ba_ext (by rw [Lib.extract_data]; simp)
theorem toBA_inj {a b : List UInt8} (h : toBA a = toBA b) : a = b := by have := congrArg (fun s => s.data.toList) h; simpa using this
theorem bt_mid (pre rest : List UInt8) (c : UInt8) : bt (toBA (pre ++ c :: rest)) (pre.length : Int) = (c.toNat : Int) := by
  unfold bt
  simp only [Int.toNat_natCast]
  rw [dif_pos (by simp)]
  simp [toBA, ByteArray.getElem_eq_getElem_data]
theorem w64 {x : Int} (h0 : -9223372036854775808 ≤ x) (h1 : x ≤ 9223372036854775807) : wrap64 x = x := by unfold wrap64; omega
theorem u8_lt (c : UInt8) : c.toNat < 256 := c.toNat_lt
theorem strOfNums_nats (l : List UInt8) : strOfNums (l.map fun b => (b.toNat : Int)) = toBA l := by
  apply ba_ext
  simp [strOfNums, Function.comp_def]
theorem Ev.step' {α : Type} {g : Nat → Option α} {r : α} (k : Ev (fun k => g (k + 1)) r) : Ev g r := Ev.step (fun _ => rfl) k
theorem Ev.const {α : Type} {g : Option α} {r : α} (h : g = some r) : Ev (fun _ => g) r := ⟨0, fun _ _ => h⟩
end Go.Proofs.YtldaingkcnmaoaaDoor.M
namespace Go.Proofs.YtldaingkcnmaoaaDoor.M
open Go.RowKit Go.Proofs.YtldaingkcnmaoaaDoorW.PrintWords Go.Proofs.YtldaingkcnmaoaaDoor.X
def letterB (n : Nat) : Bool := decide (65 ≤ n ∧ n ≤ 90 ∨ 97 ≤ n ∧ n ≤ 122)
def markN (n : Nat) : Bool := decide (n ∈ [33, 35, 36, 37, 38, 39, 42, 43, 45, 46, 94, 95, 124, 126, 96]) || letterB n || decide (48 ≤ n ∧ n ≤ 57)
def markB (c : UInt8) : Bool := markN c.toNat
theorem mark_fin : ∀ n : Fin 256, ascii_mark.f (n.val : Int) = some (markN n.val) := by decide +kernel
theorem mark_f (c : UInt8) : ascii_mark.f (c.toNat : Int) = some (markB c) := mark_fin ⟨c.toNat, c.toNat_lt⟩
def tokenL (l : List UInt8) : Bool := l.all markB && !l.isEmpty
theorem token_l0 (l : List UInt8) (hl : l.length ≤ 4611686018427387904) (rest : List UInt8) : ∀ pre : List UInt8, l = pre ++ rest →
    Ev (fun k => ascii_Token.l0 k (toBA l) (l.length : Int) (pre.length : Int)) (rest.all markB && !l.isEmpty) := by
  induction rest with
  | nil =>
    intro pre h
    refine Ev.step' ?_
    have h1 : ¬ (pre.length : Int) < (l.length : Int) := by subst h; simp
    simp only [ascii_Token.l0, if_neg h1, toBA_toList]
    exact Ev.now _
  | cons c r ih =>
    intro pre h
    refine Ev.step' ?_
    have h1 : (pre.length : Int) < (l.length : Int) := by subst h; simp; omega
    have hb : bt (toBA l) (pre.length : Int) = (c.toNat : Int) := by subst h; exact bt_mid _ _ _
    have hw : wrap64 ((pre.length : Int) + 1) = ((pre ++ [c]).length : Int) := by rw [w64 (by omega) (by omega)]; simp
    simp only [ascii_Token.l0, if_pos h1, toBA_size, if_pos (show (0 : Int) ≤ (pre.length : Int) by omega), hb, mark_f, Option.bind_some, hw]
    have := ih (pre ++ [c]) (by simp [h])
    cases hm : markB c with
    | true => simpa [hm] using this
    | false => simpa [hm] using Ev.now false
theorem token_f (l : List UInt8) (hl : l.length ≤ 4611686018427387904) : Ev (fun k => ascii_Token.f k (toBA l)) (tokenL l) := by
  have := token_l0 l hl l [] rfl
  simpa [ascii_Token.f, tokenL] using this
def digN (b : Int) (n : Nat) : Int :=
  let d : Int := if 48 ≤ n ∧ n ≤ 57 then n - 48 else if 97 ≤ n ∧ n ≤ 102 then n - 87 else if 65 ≤ n ∧ n ≤ 70 then n - 55 else -1
  if d ≥ b then -1 else d
def digB (b : Int) (c : UInt8) : Int := digN b c.toNat
theorem dig_fin10 : ∀ n : Fin 256, ascii_digit.f 3 (n.val : Int) 10 = some (digN 10 n.val) := by decide +kernel
theorem dig_fin16 : ∀ n : Fin 256, ascii_digit.f 3 (n.val : Int) 16 = some (digN 16 n.val) := by decide +kernel
theorem digit_f (b : Int) (hb : b = 10 ∨ b = 16) (c : UInt8) : Ev (fun k => ascii_digit.f k (c.toNat : Int) b) (digB b c) := by
  refine Ev.of (fun k => ascii_digit.mono _ _ k) (k := 3) ?_
  rcases hb with rfl | rfl
  · exact dig_fin10 ⟨c.toNat, c.toNat_lt⟩
  · exact dig_fin16 ⟨c.toNat, c.toNat_lt⟩
theorem digB_lt (b : Int) (hb : b = 10 ∨ b = 16) (c : UInt8) : -1 ≤ digB b c ∧ digB b c < b := by
  have := u8_lt c
  unfold digB digN
  dsimp only
  rcases hb with rfl | rfl <;> (repeat' split) <;> omega
def numGo (b : Int) : Int → List UInt8 → Option Int
  | x, [] => some x
  | x, c :: r => if digB b c < 0 then none else if x * b + digB b c > 1073741824 then none else numGo b (x * b + digB b c) r
def numL (b : Int) (l : List UInt8) : Int × Bool := match numGo b 0 l with
  | none => (0, false)
  | some x => (x, !l.isEmpty)
theorem number_l0 (b : Int) (hb : b = 10 ∨ b = 16) (l : List UInt8) (hl : l.length ≤ 4611686018427387904) (rest : List UInt8) : ∀ (pre : List UInt8) (x : Int), l = pre ++ rest → 0 ≤ x → x ≤ 1073741824 →
    Ev (fun k => ascii_Number.l0 k (toBA l) b x (l.length : Int) (pre.length : Int)) (match numGo b x rest with
      | none => (0, false)
      | some x => (x, !l.isEmpty)) := by
  induction rest with
  | nil =>
    intro pre x h h0 hx
    refine Ev.step' ?_
    have h1 : ¬ (pre.length : Int) < (l.length : Int) := by subst h; simp
    simp only [ascii_Number.l0, if_neg h1, toBA_toList]
    exact Ev.now _
  | cons c r ih =>
    intro pre x h h0 hx
    refine Ev.step' ?_
    have h1 : (pre.length : Int) < (l.length : Int) := by subst h; simp; omega
    have hbt : bt (toBA l) (pre.length : Int) = (c.toNat : Int) := by subst h; exact bt_mid _ _ _
    have hw : wrap64 ((pre.length : Int) + 1) = ((pre ++ [c]).length : Int) := by rw [w64 (by omega) (by omega)]; simp
    have hd := digB_lt b hb c
    have hm : 0 ≤ x * b ∧ x * b ≤ 17179869184 := by rcases hb with rfl | rfl <;> omega
    have hw2 : wrap64 (wrap64 (x * b) + digB b c) = x * b + digB b c := by rw [w64 (x := x * b) (by omega) (by omega), w64 (by omega) (by omega)]
    simp only [ascii_Number.l0, if_pos h1, toBA_size, if_pos (show (0 : Int) ≤ (pre.length : Int) by omega), hbt]
    refine Ev.bind (digit_f b hb c) ?_
    simp only [hw, hw2]
    by_cases hneg : digB b c < 0
    · simpa [numGo, hneg] using Ev.now (0, false)
    · simp only [if_neg hneg, numGo]
      by_cases hg : x * b + digB b c > 1073741824
      · simpa [hg] using Ev.now (0, false)
      · simp only [if_neg hg]
        exact ih (pre ++ [c]) _ (by simp [h]) (by omega) (by omega)
theorem number_f (b : Int) (hb : b = 10 ∨ b = 16) (l : List UInt8) (hl : l.length ≤ 4611686018427387904) : Ev (fun k => ascii_Number.f k (toBA l) b) (numL b l) := by
  have := number_l0 b hb l hl l [] 0 rfl (by omega) (by omega)
  simpa [ascii_Number.f, numL] using this
def wordsGo (b : Int) : List UInt8 → List UInt8 → List (List UInt8)
  | cur, [] => [cur]
  | cur, c :: r => if (c.toNat : Int) = b then cur :: wordsGo b [] r else wordsGo b (cur ++ [c]) r
def wordsL (b : Int) (l : List UInt8) : List (List UInt8) := wordsGo b [] l
theorem wordsGo_len (b : Int) (l : List UInt8) : ∀ cur, (wordsGo b cur l).length ≤ l.length + 1 := by
  induction l with
  | nil => intro cur; simp [wordsGo]
  | cons c r ih =>
    intro cur
    simp only [wordsGo]
    split
    · simpa using ih []
    · have := ih (cur ++ [c]); simp; omega
theorem wordsGo_ne (b : Int) (l : List UInt8) : ∀ cur, wordsGo b cur l ≠ [] := by
  induction l with
  | nil => intro cur; simp [wordsGo]
  | cons c r ih =>
    intro cur
    simp only [wordsGo]
    split
    · simp
    · exact ih _
theorem mid_extract (don cur rest : List UInt8) (i : Int) (hi : i = ((don ++ cur).length : Int)) : (toBA (don ++ cur ++ rest)).extract (don.length : Int).toNat i.toNat = toBA cur := by
  subst hi
  rw [toBA_extract]
  congr 1
  simp only [Int.toNat_natCast, List.append_assoc, List.length_append, List.drop_left, Nat.add_sub_cancel_left, List.take_left]
theorem words_l0 (b : Int) (l : List UInt8) (hl : l.length ≤ 4611686018427) (rest : List UInt8) : ∀ (don cur : List UInt8) (acc : List ByteArray), l = don ++ cur ++ rest → acc.length ≤ don.length →
    Ev (fun k => ascii_Words.l0 k (toBA l) b acc (don.length : Int) ((l.length : Int) + 1) ((don ++ cur).length : Int)) (acc ++ (wordsGo b cur rest).map toBA) := by
  induction rest with
  | nil =>
    intro don cur acc h ha
    have hn : ((don ++ cur).length : Int) = (l.length : Int) := by subst h; simp
    have hx : (toBA l).extract (don.length : Int).toNat ((l.length : Int)).toNat = toBA cur := by rw [h]; exact mid_extract don cur [] _ (by simp)
    have hd : don.length ≤ l.length := by subst h; simp
    have hw : wrap64 ((l.length : Int) + 1) = (l.length : Int) + 1 := w64 (by omega) (by omega)
    rw [hn]
    refine Ev.step' ?_
    simp only [ascii_Words.l0, toBA_size, if_pos (show (l.length : Int) < (l.length : Int) + 1 by omega), if_true, if_pos (show (0 : Int) ≤ (don.length : Int) by omega), if_pos (show (don.length : Int) ≤ (l.length : Int) by omega), if_pos (show (l.length : Int) ≤ (l.length : Int) by omega), if_pos (show acc.length < 8796093022208 by omega), hx, hw]
    refine Ev.step' ?_
    simp only [ascii_Words.l0, if_neg (show ¬ (l.length : Int) + 1 < (l.length : Int) + 1 by omega), wordsGo, List.map_cons, List.map_nil]
    exact Ev.now _
  | cons c r ih =>
    intro don cur acc h ha
    have hlt : ((don ++ cur).length : Int) < (l.length : Int) := by subst h; simp; omega
    have hbt : bt (toBA l) ((don ++ cur).length : Int) = (c.toNat : Int) := by subst h; exact bt_mid _ _ _
    have hx : (toBA l).extract (don.length : Int).toNat (((don ++ cur).length : Int)).toNat = toBA cur := by rw [h]; exact mid_extract don cur (c :: r) _ rfl
    have hd : don.length ≤ (don ++ cur).length := by simp
    have hw : wrap64 (((don ++ cur).length : Int) + 1) = ((don ++ cur).length : Int) + 1 := w64 (by omega) (by omega)
    refine Ev.step' ?_
    simp only [ascii_Words.l0, toBA_size, if_pos (show ((don ++ cur).length : Int) < (l.length : Int) + 1 by omega), if_neg (show ¬ ((don ++ cur).length : Int) = (l.length : Int) by omega), if_pos (show (0 : Int) ≤ ((don ++ cur).length : Int) by omega), if_pos hlt, hbt, hw, hx]
    by_cases hc : (c.toNat : Int) = b
    · simp only [if_pos hc, if_pos (show (0 : Int) ≤ (don.length : Int) by omega), if_pos (show (don.length : Int) ≤ ((don ++ cur).length : Int) by omega), if_pos (show ((don ++ cur).length : Int) ≤ (l.length : Int) by omega), if_pos (show acc.length < 8796093022208 by omega), wordsGo]
      have := ih (don ++ cur ++ [c]) [] (acc ++ [toBA cur]) (by simp [h]) (by simp; omega)
      have e1 : ((don ++ cur ++ [c]).length : Int) = ((don ++ cur).length : Int) + 1 := by simp; omega
      rw [List.append_nil, e1] at this
      simpa only [List.append_assoc, List.cons_append, List.nil_append, List.map_cons] using this
    · simp only [if_neg hc, wordsGo]
      have := ih don (cur ++ [c]) acc (by simp [h]) ha
      have e1 : ((don ++ (cur ++ [c])).length : Int) = ((don ++ cur).length : Int) + 1 := by simp; omega
      rw [e1] at this
      exact this
theorem words_f (b : Int) (l : List UInt8) (hl : l.length ≤ 4611686018427) : Ev (fun k => ascii_Words.f k (toBA l) b) ((wordsL b l).map toBA) := by
  have := words_l0 b l hl l [] [] [] rfl (by simp)
  have hw : wrap64 ((l.length : Int) + 1) = (l.length : Int) + 1 := w64 (by omega) (by omega)
  simpa [ascii_Words.f, wordsL, hw] using this
end Go.Proofs.YtldaingkcnmaoaaDoor.M
namespace Go.Proofs.YtldaingkcnmaoaaDoor.M
open Go.RowKit Go.Proofs.YtldaingkcnmaoaaDoorW.PrintWords
theorem wordsGo_nosep (b : Int) (l : List UInt8) : ∀ cur, (∀ c ∈ l, (c.toNat : Int) ≠ b) → wordsGo b cur l = [cur ++ l] := by
  induction l with
  | nil => intro cur _; simp [wordsGo]
  | cons c r ih =>
    intro cur h
    simp only [wordsGo, if_neg (h c (by simp))]
    rw [ih _ (fun x hx => h x (by simp [hx]))]
    simp
theorem wordsGo_app (b : UInt8) (l r : List UInt8) : ∀ cur, (∀ c ∈ l, (c.toNat : Int) ≠ (b.toNat : Int)) → wordsGo (b.toNat : Int) cur (l ++ b :: r) = (cur ++ l) :: wordsGo (b.toNat : Int) [] r := by
  induction l with
  | nil => intro cur _; simp [wordsGo]
  | cons c l ih =>
    intro cur h
    simp only [List.cons_append, wordsGo, if_neg (h c (by simp))]
    rw [ih _ (fun x hx => h x (by simp [hx]))]
    simp
end Go.Proofs.YtldaingkcnmaoaaDoor.M
namespace Go.Proofs.YtldaingkcnmaoaaDoor.M
open Go.RowKit Go.Proofs.YtldaingkcnmaoaaDoorW.PrintWords Go.Proofs.YtldaingkcnmaoaaDoor.X
def blankB (c : UInt8) : Bool := c.toNat == 32 || c.toNat == 9
def lstrip (l : List UInt8) : List UInt8 := l.dropWhile blankB
def rstrip (l : List UInt8) : List UInt8 := (l.reverse.dropWhile blankB).reverse
def trimL (l : List UInt8) : List UInt8 := rstrip (lstrip l)
theorem rstrip_snoc (l : List UInt8) (c : UInt8) : rstrip (l ++ [c]) = if blankB c = true then rstrip l else l ++ [c] := by
  simp only [rstrip, List.reverse_append, List.reverse_cons, List.reverse_nil, List.nil_append, List.cons_append, List.dropWhile_cons]
  split <;> simp
theorem snoc_cases (l : List UInt8) : l = [] ∨ ∃ i c, l = i ++ [c] := by
  rcases List.eq_nil_or_concat l with h | ⟨i, c, h⟩
  · exact .inl h
  · exact .inr ⟨i, c, by simpa using h⟩
theorem trim_l1 (n : Nat) : ∀ l : List UInt8, l.length = n → l.length ≤ 4611686018427387904 → Ev (fun k => ascii_Trim.l1 k (toBA l)) (toBA (rstrip l)) := by
  induction n with
  | zero =>
    intro l h _
    obtain rfl : l = [] := List.eq_nil_of_length_eq_zero h
    refine Ev.step' ?_
    simp only [ascii_Trim.l1, toBA_toList, if_true]
    exact Ev.now _
  | succ n ih =>
    intro l h hl
    rcases snoc_cases l with rfl | ⟨i, c, rfl⟩
    · simp at h
    have hi : i.length = n := by simp at h; omega
    have hl' : (i ++ [c]).length = i.length + 1 := by simp
    have hw : wrap64 (((i ++ [c]).length : Int) - 1) = (i.length : Int) := by rw [w64 (by omega) (by omega)]; simp
    have hb : bt (toBA (i ++ [c])) (i.length : Int) = (c.toNat : Int) := bt_mid _ _ _
    have hx : (toBA (i ++ [c])).extract 0 (i.length : Int).toNat = toBA i := by rw [toBA_extract]; simp
    have hne : ¬ (i ++ [c]) = ([] : List UInt8) := by simp
    refine Ev.step' ?_
    simp only [ascii_Trim.l1, toBA_toList, if_neg hne, toBA_size, hw, if_pos (show (0 : Int) ≤ (i.length : Int) by omega), if_pos (show (i.length : Int) < ((i ++ [c]).length : Int) by omega), hb, if_pos (show (i.length : Int) ≤ ((i ++ [c]).length : Int) by omega), hx]
    rw [rstrip_snoc]
    by_cases h1 : (c.toNat : Int) = 32
    · have e : blankB c = true := by simp [blankB]; omega
      simp only [if_pos h1, e, if_true]
      exact ih i hi (by omega)
    · by_cases h2 : (c.toNat : Int) = 9
      · have e : blankB c = true := by simp [blankB]; omega
        simp only [if_neg h1, if_pos h2, e, if_true]
        exact ih i hi (by omega)
      · have e : blankB c = false := by simp [blankB]; omega
        simp only [if_neg h1, if_neg h2, e, Bool.false_eq_true, if_false]
        exact Ev.now _
theorem trim_l0 (l : List UInt8) (hl : l.length ≤ 4611686018427387904) : Ev (fun k => ascii_Trim.l0 k (toBA l)) (toBA (trimL l)) := by
  have j1 : ∀ l : List UInt8, l.length ≤ 4611686018427387904 → Ev (fun k => ascii_Trim.j1 k (toBA l)) (toBA (rstrip l)) := by
    intro l hl
    refine Ev.step' ?_
    simp only [ascii_Trim.j1]
    exact trim_l1 l.length l rfl hl
  induction l with
  | nil =>
    refine Ev.step' ?_
    simp only [ascii_Trim.l0, toBA_toList, if_true]
    exact j1 [] (by simp)
  | cons c r ih =>
    have hb : bt (toBA (c :: r)) 0 = (c.toNat : Int) := bt_mid [] r c
    have hx : (toBA (c :: r)).extract 1 (toBA (c :: r)).size = toBA r := by rw [toBA_extract]; simp
    rw [toBA_size] at hx
    have hlen : (c :: r).length = r.length + 1 := rfl
    refine Ev.step' ?_
    simp only [ascii_Trim.l0, toBA_toList, if_neg (show ¬ (c :: r) = ([] : List UInt8) by simp), toBA_size, if_pos (show (0 : Int) < ((c :: r).length : Int) by omega), hb, if_pos (show (1 : Int) ≤ ((c :: r).length : Int) by omega), hx]
    simp only [trimL, lstrip, List.dropWhile_cons]
    by_cases h1 : (c.toNat : Int) = 32
    · have e : blankB c = true := by simp [blankB]; omega
      simp only [if_pos h1, e, if_true]
      exact ih (by omega)
    · by_cases h2 : (c.toNat : Int) = 9
      · have e : blankB c = true := by simp [blankB]; omega
        simp only [if_neg h1, if_pos h2, e, if_true]
        exact ih (by omega)
      · have e : blankB c = false := by simp [blankB]; omega
        simp only [if_neg h1, if_neg h2, e, Bool.false_eq_true, if_false]
        exact j1 (c :: r) hl
theorem trim_f (l : List UInt8) (hl : l.length ≤ 4611686018427387904) : Ev (fun k => ascii_Trim.f k (toBA l)) (toBA (trimL l)) := by
  simpa only [ascii_Trim.f] using trim_l0 l hl
theorem rstrip_len (l : List UInt8) : (rstrip l).length ≤ l.length := by
  simp only [rstrip, List.length_reverse]
  have := (List.dropWhile_sublist blankB (l := l.reverse)).length_le
  simpa using this
theorem lstrip_len (l : List UInt8) : (lstrip l).length ≤ l.length := (List.dropWhile_sublist blankB).length_le
theorem trim_len (l : List UInt8) : (trimL l).length ≤ l.length := Nat.le_trans (rstrip_len _) (lstrip_len _)
end Go.Proofs.YtldaingkcnmaoaaDoor.M
namespace Go.Proofs.YtldaingkcnmaoaaDoor.M
open Go
end Go.Proofs.YtldaingkcnmaoaaDoor.M
namespace Go.Proofs.YtldaingkcnmaoaaDoor.M
open Go.RowKit Go.Proofs.YtldaingkcnmaoaaDoorW.PrintWords Go.Proofs.YtldaingkcnmaoaaDoor.X
def lowerL (l : List UInt8) : List UInt8 := l.map lowerB
theorem lower_f (l : List UInt8) (hl : l.length ≤ 140737488355328) : ascii_Lower.f (toBA l) = some (toBA (lowerL l)) := by
  rw [ascii_Lower.f, toBA_size, if_pos hl, lowerS, toBA_dl]; rfl
theorem lowerL_length (l : List UInt8) : (lowerL l).length = l.length := by simp [lowerL]
end Go.Proofs.YtldaingkcnmaoaaDoor.M
namespace Go.Proofs.YtldaingkcnmaoaaDoor.M
open Go.RowKit Go.Proofs.YtldaingkcnmaoaaDoorW.PrintWords Go.Proofs.YtldaingkcnmaoaaDoor.X
def valueL (l : List UInt8) : Bool := l.all goodB
theorem value_f (l : List UInt8) : ascii_Value.f (toBA l) = some (valueL l) := by
  simp [ascii_Value.f, okFrom, valueL]
abbrev FldM := List UInt8 × List UInt8
def splitC : List UInt8 → Option (List UInt8 × List UInt8)
  | [] => none
  | c :: r => if c.toNat = 58 then some ([], r) else (splitC r).map fun p => (c :: p.1, p.2)
def fieldL (l : List UInt8) : FldM × Bool := match splitC l with
  | none => (([], []), false)
  | some (a, b) => ((lowerL a, trimL b), tokenL a && valueL (trimL b))
def fieldsL : List (List UInt8) → Option (List FldM)
  | [] => some []
  | l :: r => if (fieldL l).2 = true then (fieldsL r).map fun fs => (fieldL l).1 :: fs else none
def allL (name : List UInt8) (fs : List FldM) : List (List UInt8) := (fs.filter fun f => f.1 = name).map fun f => f.2
structure HeadR where
  m : List UInt8
  t : List UInt8
  fs : List FldM
  close : Bool
  len : Int
  st : Int
def badL (st : Int) : HeadR := ⟨[], [], [], false, 0, st⟩
def sHost : List UInt8 := [104, 111, 115, 116]
def sLen : List UInt8 := [99, 111, 110, 116, 101, 110, 116, 45, 108, 101, 110, 103, 116, 104]
def sCod : List UInt8 := [116, 114, 97, 110, 115, 102, 101, 114, 45, 101, 110, 99, 111, 100, 105, 110, 103]
def sCon : List UInt8 := [99, 111, 110, 110, 101, 99, 116, 105, 111, 110]
def sClose : List UInt8 := [99, 108, 111, 115, 101]
def sChunk : List UInt8 := [99, 104, 117, 110, 107, 101, 100]
def sVer : List UInt8 := [72, 84, 84, 80, 47, 49, 46, 49]
def isClose (w : List UInt8) : Bool := decide (lowerL (trimL w) = sClose)
def closeW (v : List UInt8) : Bool := (wordsL 44 v).any isClose
def closeL (fs : List FldM) : Bool := (allL sCon fs).any closeW
def badFrame (fs : List FldM) : Bool := decide ((allL sHost fs).length ≠ 1) || decide ((allL sLen fs).length > 1) || (decide ((allL sLen fs).length > 0) && decide ((allL sCod fs).length > 0))
def notDone (cs : List (List UInt8)) : Bool := match cs with
  | [] => false
  | [c] => decide (lowerL c ≠ sChunk)
  | _ => true
def pickG {α : Type} (bad g : Int → α) (ls cs : List (List UInt8)) : α :=
  if notDone cs = true then bad 501 else
  match cs, ls with
  | [_], _ => g (-1)
  | _, [v] => if (numL 10 v).2 = true then (if (numL 10 v).1 > 600 then bad 413 else g (numL 10 v).1) else bad 400
  | _, _ => g 0
theorem pickG_map {α β : Type} (f : α → β) (bad g : Int → α) (ls cs : List (List UInt8)) : f (pickG bad g ls cs) = pickG (fun i => f (bad i)) (fun i => f (g i)) ls cs := by
  unfold pickG
  by_cases h : notDone cs = true
  · rw [if_pos h, if_pos h]
  · rw [if_neg h, if_neg h]
    have e : ∀ v : List UInt8, f (if (numL 10 v).2 = true then (if (numL 10 v).1 > 600 then bad 413 else g (numL 10 v).1) else bad 400) = (if (numL 10 v).2 = true then (if (numL 10 v).1 > 600 then f (bad 413) else f (g (numL 10 v).1)) else f (bad 400)) := by
      intro v
      by_cases h1 : (numL 10 v).2 = true
      · rw [if_pos h1, if_pos h1]
        by_cases h2 : (numL 10 v).1 > 600
        · rw [if_pos h2, if_pos h2]
        · rw [if_neg h2, if_neg h2]
      · rw [if_neg h1, if_neg h1]
    rcases cs with _ | ⟨c, _ | ⟨c', cs⟩⟩ <;> rcases ls with _ | ⟨v, _ | ⟨v', ls⟩⟩ <;> first | rfl | exact e v
def frameL (m t : List UInt8) (fs : List FldM) : HeadR :=
  if badFrame fs = true then badL 400 else pickG badL (fun n => ⟨m, t, fs, closeL fs, n, 0⟩) (allL sLen fs) (allL sCod fs)
def slash1 : List UInt8 → Bool
  | [] => false
  | c :: _ => decide (c.toNat = 47)
def firstL (m t : List UInt8) : Bool := tokenL m && slash1 t && valueL t
def parseL : List (List UInt8) → HeadR
  | [] => badL 400
  | first :: rest =>
    if first.length > 200 ∨ rest.length > 16 then badL 431 else
    match wordsL 32 first with
    | [m, t, v] => if firstL m t = true then (if v = sVer then (match fieldsL rest with
        | none => badL 400
        | some fs => frameL m t fs) else badL 400) else badL 400
    | _ => badL 400
end Go.Proofs.YtldaingkcnmaoaaDoor.M
namespace Go.Proofs.YtldaingkcnmaoaaDoor.M
open Go.RowKit Go.Proofs.YtldaingkcnmaoaaDoorW.PrintWords Go.Proofs.YtldaingkcnmaoaaDoor.X
def fT (f : FldM) : S62 := ⟨toBA f.1, toBA f.2⟩
abbrev HT := ByteArray × ByteArray × (List (S62)) × ByteArray × Bool × Int × Int
def hT (h : HeadR) : HT := (toBA h.m, toBA h.t, h.fs.map fT, toBA [], h.close, h.len, h.st)
theorem bad_f (st : Int) : head_bad.f st = some (hT (badL st)) := rfl
theorem field_l0 (l : List UInt8) (hl : l.length ≤ 100000) (rest : List UInt8) : ∀ pre : List UInt8, l = pre ++ rest →
    Ev (fun k => head_field.l0 k (toBA l) (l.length : Int) (pre.length : Int)) (match splitC rest with
      | none => (toBA [], toBA [], false)
      | some (a, b) => (toBA (lowerL (pre ++ a)), toBA (trimL b), tokenL (pre ++ a) && valueL (trimL b))) := by
  induction rest with
  | nil =>
    intro pre h
    have hp : pre.length = l.length := by subst h; simp
    refine Ev.step' ?_
    simp only [head_field.l0, if_neg (show ¬ (pre.length : Int) < (l.length : Int) by omega), splitC]
    exact Ev.now _
  | cons c r ih =>
    intro pre h
    have hp : pre.length < l.length := by subst h; simp
    have hpl : l.length = pre.length + 1 + r.length := by subst h; simp; omega
    have hb : bt (toBA l) (pre.length : Int) = (c.toNat : Int) := by rw [h]; exact bt_mid _ _ _
    have hw : wrap64 ((pre.length : Int) + 1) = (pre.length : Int) + 1 := w64 (by omega) (by omega)
    refine Ev.step' ?_
    simp only [head_field.l0, if_pos (show (pre.length : Int) < (l.length : Int) by omega), toBA_size, if_pos (show (0 : Int) ≤ (pre.length : Int) by omega), hb, hw, splitC]
    by_cases hc : c.toNat = 58
    · have x1 : (toBA l).extract 0 (pre.length : Int).toNat = toBA pre := by rw [h, toBA_extract]; simp
      have x2 : (toBA l).extract ((pre.length : Int) + 1).toNat l.length = toBA r := by
        rw [toBA_extract, h, show ((pre.length : Int) + 1).toNat = pre.length + 1 by omega]
        congr 1
        rw [← List.drop_drop, List.drop_left, List.drop_succ_cons, List.drop_zero, List.take_of_length_le (by simp; omega)]
      simp only [if_pos (show (c.toNat : Int) = 58 by omega), if_pos hc, if_pos (show (pre.length : Int) ≤ (l.length : Int) by omega), x1, x2, lower_f pre (by omega), Option.bind_some, if_pos (show (0 : Int) ≤ (pre.length : Int) + 1 by omega), if_pos (show (pre.length : Int) + 1 ≤ (l.length : Int) by omega), List.append_nil]
      refine Ev.bind (trim_f r (by omega)) ?_
      refine Ev.bind (token_f pre (by omega)) ?_
      cases tokenL pre with
      | true => simp only [if_true, value_f, Option.bind_some, Bool.true_and]; exact Ev.now _
      | false => simp only [Bool.false_eq_true, if_false, Bool.false_and]; exact Ev.now _
    · have := ih (pre ++ [c]) (by simp [h])
      rw [show ((pre ++ [c]).length : Int) = (pre.length : Int) + 1 by simp] at this
      simp only [if_neg (show ¬ (c.toNat : Int) = 58 by omega), if_neg hc]
      cases hs : splitC r with
      | none => simpa [hs] using this
      | some p => simpa [hs] using this
theorem field_f (l : List UInt8) (hl : l.length ≤ 100000) : Ev (fun k => head_field.f k (toBA l)) (toBA (fieldL l).1.1, toBA (fieldL l).1.2, (fieldL l).2) := by
  have := field_l0 l hl l [] rfl
  simp only [head_field.f, toBA_size, fieldL]
  cases hs : splitC l with
  | none => simpa [hs] using this
  | some p => simpa [hs] using this
theorem all_l0 (name : List UInt8) (fs : List FldM) (hn : fs.length ≤ 100000) (post : List FldM) : ∀ (pre : List FldM) (acc : List ByteArray), fs = pre ++ post → acc.length ≤ pre.length →
    Ev (fun k => head_All.l0 k (toBA name) acc (fs.map fT) (fs.length : Int) (pre.length : Int)) (acc ++ (allL name post).map toBA) := by
  induction post with
  | nil =>
    intro pre acc h ha
    have hp : pre.length = fs.length := by subst h; simp
    refine Ev.step' ?_
    simp only [head_All.l0, if_neg (show ¬ (pre.length : Int) < (fs.length : Int) by omega)]
    simpa [allL] using Ev.now acc
  | cons f r ih =>
    intro pre acc h ha
    have hp : pre.length < fs.length := by subst h; simp
    have hr : rd_T62 (fs.map fT) (pre.length : Int) = fT f := by rw [h]; simp [rd_T62]
    have hw : wrap64 ((pre.length : Int) + 1) = ((pre ++ [f]).length : Int) := by rw [w64 (by omega) (by omega)]; simp
    refine Ev.step' ?_
    simp only [head_All.l0, if_pos (show (pre.length : Int) < (fs.length : Int) by omega), if_pos (show (0 : Int) ≤ (pre.length : Int) by omega), List.length_map, hr, hw, fT, toBA_toList, if_pos (show acc.length < 8796093022208 by omega)]
    by_cases hf : f.1 = name
    · have := ih (pre ++ [f]) (acc ++ [toBA f.2]) (by simp [h]) (by simp; omega)
      simp only [if_pos hf]
      simpa [allL, hf, fT] using this
    · have := ih (pre ++ [f]) acc (by simp [h]) (by simp; omega)
      simp only [if_neg hf]
      simpa [allL, hf, fT] using this
theorem all_f (name : List UInt8) (fs : List FldM) (hn : fs.length ≤ 100000) : Ev (fun k => head_All.f k (fs.map fT) (toBA name)) ((allL name fs).map toBA) := by
  have := all_l0 name fs hn fs [] [] rfl (by simp)
  simpa [head_All.f] using this
theorem words_len_le (b : Int) (l : List UInt8) : ∀ cur, ∀ w ∈ wordsGo b cur l, w.length ≤ cur.length + l.length := by
  induction l with
  | nil => intro cur w hw; simp only [wordsGo, List.mem_singleton] at hw; subst hw; simp
  | cons c r ih =>
    intro cur w hw
    simp only [wordsGo] at hw
    split at hw
    · rcases List.mem_cons.1 hw with rfl | hw
      · simp
      · have := ih [] w hw; simp at this ⊢; omega
    · have := ih (cur ++ [c]) w hw; simp at this ⊢; omega
section
variable (ls cs : List (List UInt8)) (a b : ByteArray) (fs : List (S62)) (d : ByteArray)
def endL (ls cs : List (List UInt8)) (a b : ByteArray) (fs : List (S62)) (d : ByteArray) (close : Bool) : HT :=
  pickG (fun i => hT (badL i)) (fun n => (a, b, fs, d, close, n, 0)) ls cs
theorem frame_end (hls : ls.length ≤ 1) (hl : ∀ v ∈ ls, v.length ≤ 100000) (hc : ∀ v ∈ cs, v.length ≤ 100000) (close : Bool) :
    Ev (fun k => if ((cs.map toBA).length : Int) > 1 then head_Head_frame.j3 k (ls.map toBA) (cs.map toBA) true a b fs d close 0 0 else if ((cs.map toBA).length : Int) = 1 then (if 0 < ((cs.map toBA).length : Int) then ((ascii_Lower.f (rdOf ByteArray.empty (cs.map toBA) 0)).bind fun t => head_Head_frame.j3 k (ls.map toBA) (cs.map toBA) (t.toList != ([99, 104, 117, 110, 107, 101, 100] : List UInt8)) a b fs d close 0 0) else none) else head_Head_frame.j3 k (ls.map toBA) (cs.map toBA) false a b fs d close 0 0)
      (endL ls cs a b fs d close) := by
  match cs, hc with
  | [], _ =>
    simp only [List.map_nil, List.length_nil]
    have e : endL ls [] a b fs d close = (match ls with
      | [v] => if (numL 10 v).2 = true then (if (numL 10 v).1 > 600 then hT (badL 413) else (a, b, fs, d, close, (numL 10 v).1, 0)) else hT (badL 400)
      | _ => (a, b, fs, d, close, 0, 0)) := by
      match ls, hls with
      | [], _ => rfl
      | [v], _ => rfl
      | _ :: _ :: _, h => simp at h
    rw [e]
    simp only [if_neg (show ¬ ((0 : Nat) : Int) > 1 by omega), if_neg (show ¬ ((0 : Nat) : Int) = 1 by omega)]
    refine Ev.step' ?_
    simp only [head_Head_frame.j3, Bool.false_eq_true, if_false, List.length_nil, if_neg (show ¬ ((0 : Nat) : Int) = 1 by omega)]
    match ls, hls, hl with
    | [], _, _ =>
      simp only [List.map_nil, List.length_nil, if_neg (show ¬ ((0 : Nat) : Int) = 1 by omega)]
      exact Ev.now _
    | [v], _, hl =>
      have hr : rdOf ByteArray.empty [toBA v] 0 = toBA v := rfl
      simp only [List.map_cons, List.map_nil, List.length_singleton, if_pos (show ((1 : Nat) : Int) = 1 by omega), if_pos (show (0 : Int) < ((1 : Nat) : Int) by omega), hr]
      refine Ev.bind (number_f 10 (.inl rfl) v (by have := hl v (by simp); omega)) ?_
      cases (numL 10 v).2 with
      | false => simp only [Bool.false_eq_true, if_false, bad_f, Option.bind_some]; exact Ev.now _
      | true =>
        simp only [if_true]
        by_cases h6 : (numL 10 v).1 > 600
        · simp only [if_pos h6, bad_f, Option.bind_some]; exact Ev.now _
        · simp only [if_neg h6]; exact Ev.now _
    | _ :: _ :: _, h, _ => simp at h
  | [c], hc =>
    have hr : rdOf ByteArray.empty [toBA c] 0 = toBA c := rfl
    simp only [List.map_cons, List.map_nil, List.length_singleton, if_neg (show ¬ ((1 : Nat) : Int) > 1 by omega), if_pos (show ((1 : Nat) : Int) = 1 by omega), if_pos (show (0 : Int) < ((1 : Nat) : Int) by omega), hr, lower_f c (by have := hc c (by simp); omega), Option.bind_some, toBA_toList]
    refine Ev.step' ?_
    simp only [head_Head_frame.j3, List.length_singleton, if_pos (show ((1 : Nat) : Int) = 1 by omega), endL, pickG, notDone]
    by_cases h : lowerL c = sChunk
    · have e : (lowerL c != ([99, 104, 117, 110, 107, 101, 100] : List UInt8)) = false := by rw [h]; rfl
      simp only [e, Bool.false_eq_true, if_false, h, ne_eq, not_true_eq_false, decide_false]
      exact Ev.now _
    · have e : (lowerL c != ([99, 104, 117, 110, 107, 101, 100] : List UInt8)) = true := bne_iff_ne.2 h
      simp only [e, if_true, ne_eq, h, not_false_eq_true, decide_true, bad_f, Option.bind_some]
      exact Ev.now _
  | c :: c' :: r, _ =>
    have h2 : (((c :: c' :: r).map toBA).length : Int) > 1 := by simp; omega
    simp only [if_pos h2]
    refine Ev.step' ?_
    simp only [head_Head_frame.j3, if_true, bad_f, Option.bind_some, endL, pickG, notDone]
    exact Ev.now _
end
theorem frame_l1 (vs : List (List UInt8)) (x48 : Int) (ls cs : List ByteArray) (a b : ByteArray) (fs : List (S62)) (d : ByteArray) (R : HT) (ws : List (List UInt8)) (hw : ws.length ≤ 100001) (hwl : ∀ w ∈ ws, w.length ≤ 100000) (post : List (List UInt8)) : ∀ (pre : List (List UInt8)) (close : Bool), ws = pre ++ post →
    Ev (fun k => head_Head_frame.l0 k ls cs (vs.map toBA) (vs.length : Int) (wrap64 (x48 + 1)) a b fs d (close || post.any isClose) 0 0) R →
    Ev (fun k => head_Head_frame.l1 k ls cs (vs.map toBA) (vs.length : Int) x48 (ws.map toBA) (ws.length : Int) (pre.length : Int) a b fs d close 0 0) R := by
  induction post with
  | nil =>
    intro pre close h hv
    have hp : pre.length = ws.length := by subst h; simp
    refine Ev.step' ?_
    simp only [head_Head_frame.l1, if_neg (show ¬ (pre.length : Int) < (ws.length : Int) by omega)]
    simpa using hv
  | cons w r ih =>
    intro pre close h hv
    have hp : pre.length < ws.length := by subst h; simp
    have hr : rdOf ByteArray.empty (ws.map toBA) (pre.length : Int) = toBA w := by rw [h]; simp [rdOf]
    have hwr : wrap64 ((pre.length : Int) + 1) = ((pre ++ [w]).length : Int) := by rw [w64 (by omega) (by omega)]; simp
    have hwlen := hwl w (by rw [h]; simp)
    have htl := trim_len w
    refine Ev.step' ?_
    simp only [head_Head_frame.l1, if_pos (show (pre.length : Int) < (ws.length : Int) by omega), if_pos (show (0 : Int) ≤ (pre.length : Int) by omega), List.length_map, hr, hwr]
    cases close with
    | true =>
      simp only [if_true]
      exact ih (pre ++ [w]) true (by simp [h]) (by simpa using hv)
    | false =>
      simp only [Bool.false_eq_true, if_false]
      refine Ev.bind (trim_f w (by omega)) ?_
      simp only [lower_f (trimL w) (by omega), Option.bind_some, toBA_toList]
      have e : (lowerL (trimL w) == ([99, 108, 111, 115, 101] : List UInt8)) = isClose w := by
        rw [Bool.eq_iff_iff, beq_iff_eq, isClose, decide_eq_true_iff]; exact Iff.rfl
      rw [e]
      exact ih (pre ++ [w]) (isClose w) (by simp [h]) (by simpa using hv)
theorem frame_l0 (vs : List (List UInt8)) (hvn : vs.length ≤ 100000) (hvl : ∀ v ∈ vs, v.length ≤ 100000) (ls cs : List (List UInt8)) (hls : ls.length ≤ 1) (hl : ∀ v ∈ ls, v.length ≤ 100000) (hc : ∀ v ∈ cs, v.length ≤ 100000) (a b : ByteArray) (fs : List (S62)) (d : ByteArray) (post : List (List UInt8)) : ∀ (pre : List (List UInt8)) (close : Bool), vs = pre ++ post →
    Ev (fun k => head_Head_frame.l0 k (ls.map toBA) (cs.map toBA) (vs.map toBA) (vs.length : Int) (pre.length : Int) a b fs d close 0 0) (endL ls cs a b fs d (close || post.any closeW)) := by
  induction post with
  | nil =>
    intro pre close h
    have hp : pre.length = vs.length := by subst h; simp
    refine Ev.step' ?_
    simp only [head_Head_frame.l0, if_neg (show ¬ (pre.length : Int) < (vs.length : Int) by omega), List.any_nil, Bool.or_false]
    exact frame_end ls cs a b fs d hls hl hc close
  | cons v r ih =>
    intro pre close h
    have hp : pre.length < vs.length := by subst h; simp
    have hr : rdOf ByteArray.empty (vs.map toBA) (pre.length : Int) = toBA v := by rw [h]; simp [rdOf]
    have hwr : wrap64 ((pre.length : Int) + 1) = ((pre ++ [v]).length : Int) := by rw [w64 (by omega) (by omega)]; simp
    have hvlen := hvl v (by rw [h]; simp)
    refine Ev.step' ?_
    simp only [head_Head_frame.l0, if_pos (show (pre.length : Int) < (vs.length : Int) by omega), if_pos (show (0 : Int) ≤ (pre.length : Int) by omega), List.length_map, hr]
    refine Ev.bind (words_f 44 v (by omega)) ?_
    have hwn := wordsGo_len 44 v []
    have hwl : ∀ w ∈ wordsL 44 v, w.length ≤ 100000 := fun w hw => by have := words_len_le 44 v [] w hw; simp at this; omega
    have key := frame_l1 vs (pre.length : Int) (ls.map toBA) (cs.map toBA) a b fs d (endL ls cs a b fs d (close || (v :: r).any closeW)) (wordsL 44 v) (by simp only [wordsL]; omega) hwl (wordsL 44 v) [] close rfl (by
      rw [hwr]
      have := ih (pre ++ [v]) (close || closeW v) (by simp [h])
      simpa [Bool.or_assoc, closeW] using this)
    simpa using key
theorem all_mem_len (name : List UInt8) (fs : List FldM) (h : ∀ f ∈ fs, f.2.length ≤ 100000) : ∀ v ∈ allL name fs, v.length ≤ 100000 := by
  intro v hv
  simp only [allL, List.mem_map, List.mem_filter] at hv
  obtain ⟨f, ⟨hf, _⟩, rfl⟩ := hv
  exact h f hf
theorem all_len (name : List UInt8) (fs : List FldM) : (allL name fs).length ≤ fs.length := by
  simp only [allL, List.length_map]
  exact List.length_filter_le _ _
theorem badFrame_iff (fs : List FldM) : badFrame fs = true ↔ (allL sHost fs).length ≠ 1 ∨ (allL sLen fs).length > 1 ∨ ((allL sLen fs).length > 0 ∧ (allL sCod fs).length > 0) := by
  simp only [badFrame, Bool.or_eq_true, Bool.and_eq_true, decide_eq_true_eq, or_assoc]
theorem badFrame_t (fs : List FldM) (h : (allL sHost fs).length ≠ 1 ∨ (allL sLen fs).length > 1 ∨ ((allL sLen fs).length > 0 ∧ (allL sCod fs).length > 0)) : badFrame fs = true := (badFrame_iff fs).2 h
theorem badFrame_f (fs : List FldM) (h1 : (allL sHost fs).length = 1) (h2 : (allL sLen fs).length ≤ 1) (h3 : (allL sLen fs).length = 0 ∨ (allL sCod fs).length = 0) : badFrame fs = false := by
  rw [Bool.eq_false_iff]
  intro h
  have := (badFrame_iff fs).1 h
  omega
theorem frame_f (m t : List UInt8) (fs : List FldM) (hn : fs.length ≤ 100000) (hfl : ∀ f ∈ fs, f.2.length ≤ 100000) :
    Ev (fun k => head_Head_frame.f k (toBA m) (toBA t) (fs.map fT) (toBA []) false 0 0) (hT (frameL m t fs)) := by
  have l1 := all_len sLen fs
  have l2 := all_len sCon fs
  simp only [head_Head_frame.f]
  refine Ev.bind (all_f sHost fs hn) ?_
  refine Ev.bind (all_f sLen fs hn) ?_
  refine Ev.bind (all_f sCod fs hn) ?_
  simp only [List.length_map]
  have bad : badFrame fs = true → Ev (fun k => head_Head_frame.j0 k ((allL sLen fs).map toBA) ((allL sCod fs).map toBA) true (toBA m) (toBA t) (fs.map fT) (toBA []) false 0 0) (hT (frameL m t fs)) := by
    intro h
    rw [frameL, if_pos h]
    refine Ev.step' ?_
    simp only [head_Head_frame.j0, if_true, bad_f, Option.bind_some]
    exact Ev.now _
  have good : badFrame fs = false → (allL sLen fs).length ≤ 1 → Ev (fun k => head_Head_frame.j0 k ((allL sLen fs).map toBA) ((allL sCod fs).map toBA) false (toBA m) (toBA t) (fs.map fT) (toBA []) false 0 0) (hT (frameL m t fs)) := by
    intro h hle
    refine Ev.step' ?_
    simp only [head_Head_frame.j0, Bool.false_eq_true, if_false]
    refine Ev.bind (all_f sCon fs hn) ?_
    have key := frame_l0 (allL sCon fs) (by omega) (all_mem_len sCon fs hfl) (allL sLen fs) (allL sCod fs) hle (all_mem_len sLen fs hfl) (all_mem_len sCod fs hfl) (toBA m) (toBA t) (fs.map fT) (toBA []) (allL sCon fs) [] false rfl
    have e : endL (allL sLen fs) (allL sCod fs) (toBA m) (toBA t) (fs.map fT) (toBA []) (false || (allL sCon fs).any closeW) = hT (frameL m t fs) := by
      rw [frameL, if_neg (by rw [h]; exact Bool.false_ne_true), pickG_map hT, endL, Bool.false_or]
      rfl
    rw [e] at key
    simpa using key
  by_cases h1 : (allL sHost fs).length = 1
  · simp only [if_pos (show ((allL sHost fs).length : Int) = 1 by omega)]
    by_cases h2 : (allL sLen fs).length > 1
    · simp only [if_pos (show ((allL sLen fs).length : Int) > 1 by omega)]
      exact bad (badFrame_t fs (.inr (.inl h2)))
    · simp only [if_neg (show ¬ ((allL sLen fs).length : Int) > 1 by omega)]
      by_cases h3 : (allL sLen fs).length > 0
      · simp only [if_pos (show ((allL sLen fs).length : Int) > 0 by omega)]
        by_cases h4 : (allL sCod fs).length > 0
        · simp only [decide_eq_true (show ((allL sCod fs).length : Int) > 0 by omega)]
          exact bad (badFrame_t fs (.inr (.inr ⟨h3, h4⟩)))
        · simp only [decide_eq_false (show ¬ ((allL sCod fs).length : Int) > 0 by omega)]
          exact good (badFrame_f fs h1 (by omega) (by omega)) (by omega)
      · simp only [if_neg (show ¬ ((allL sLen fs).length : Int) > 0 by omega)]
        exact good (badFrame_f fs h1 (by omega) (by omega)) (by omega)
  · simp only [if_neg (show ¬ ((allL sHost fs).length : Int) = 1 by omega)]
    exact bad (badFrame_t fs (.inl h1))
theorem splitC_len (l : List UInt8) : ∀ p, splitC l = some p → p.1.length ≤ l.length ∧ p.2.length ≤ l.length := by
  induction l with
  | nil => intro p h; cases h
  | cons c r ih =>
    intro p h
    simp only [splitC] at h
    split at h
    · injection h with h; subst h; simp
    · obtain ⟨q, hq, rfl⟩ := Option.map_eq_some_iff.1 h
      have := ih q hq
      simp; omega
theorem fieldL_len (l : List UInt8) : (fieldL l).1.1.length ≤ l.length ∧ (fieldL l).1.2.length ≤ l.length := by
  unfold fieldL
  cases hs : splitC l with
  | none => simp
  | some p =>
    have := splitC_len l p hs
    have := trim_len p.2
    simp [lowerL_length]; omega
theorem parse_l0 (m t : List UInt8) (ls : List (List UInt8)) (hn : ls.length ≤ 100000) (hl : ∀ l ∈ ls, l.length ≤ 100000) (post : List (List UInt8)) : ∀ (pre : List (List UInt8)) (acc : List FldM), ls = pre ++ post → acc.length = pre.length → (∀ f ∈ acc, f.2.length ≤ 100000) →
    Ev (fun k => head_Parse.l0 k (ls.map toBA) (ls.length : Int) (pre.length : Int) (toBA m) (toBA t) (acc.map fT) (toBA []) false 0 0) (hT (match fieldsL post with
      | none => badL 400
      | some fs => frameL m t (acc ++ fs))) := by
  induction post with
  | nil =>
    intro pre acc h ha hal
    have hp : pre.length = ls.length := by subst h; simp
    refine Ev.step' ?_
    simp only [head_Parse.l0, if_neg (show ¬ (pre.length : Int) < (ls.length : Int) by omega), fieldsL, List.append_nil]
    refine Ev.bind (frame_f m t acc (by omega) hal) ?_
    exact Ev.now _
  | cons l r ih =>
    intro pre acc h ha hal
    have hp : pre.length < ls.length := by subst h; simp
    have hr : rdOf ByteArray.empty (ls.map toBA) (pre.length : Int) = toBA l := by rw [h]; simp [rdOf]
    have hwr : wrap64 ((pre.length : Int) + 1) = ((pre ++ [l]).length : Int) := by rw [w64 (by omega) (by omega)]; simp
    have hll := hl l (by rw [h]; simp)
    refine Ev.step' ?_
    simp only [head_Parse.l0, if_pos (show (pre.length : Int) < (ls.length : Int) by omega), if_pos (show (0 : Int) ≤ (pre.length : Int) by omega), List.length_map, hr, hwr]
    refine Ev.bind (field_f l hll) ?_
    simp only [fieldsL]
    cases hf : (fieldL l).2 with
    | false =>
      simp only [Bool.false_eq_true, if_false, bad_f, Option.bind_some]
      exact Ev.now _
    | true =>
      simp only [if_true, if_pos (show acc.length < 4398046511104 by omega)]
      have hfl := fieldL_len l
      have := ih (pre ++ [l]) (acc ++ [(fieldL l).1]) (by simp [h]) (by simp [ha]) (by
        intro f hf
        rcases List.mem_append.1 hf with hf | hf
        · exact hal f hf
        · rw [List.mem_singleton.1 hf]; omega)
      cases hq : fieldsL r with
      | none => simpa [hq, fT] using this
      | some fs => simpa [hq, fT] using this
theorem parse_f (ls : List (List UInt8)) (hn : ls.length ≤ 100000) (hl : ∀ l ∈ ls, l.length ≤ 100000) : Ev (fun k => head_Parse.f k (ls.map toBA)) (hT (parseL ls)) := by
  simp only [head_Parse.f, List.length_map]
  cases ls with
  | nil =>
    simp only [List.length_nil, if_pos (show ((0 : Nat) : Int) = 0 by omega), bad_f, Option.bind_some, parseL]
    exact Ev.now _
  | cons first rest =>
    have hlen : (first :: rest).length = rest.length + 1 := rfl
    have hr0 : rdOf ByteArray.empty ((first :: rest).map toBA) 0 = toBA first := rfl
    have hfl := hl first (by simp)
    have hw : wrap64 (((first :: rest).length : Int) - 1) = (rest.length : Int) := by rw [w64 (by omega) (by omega)]; omega
    simp only [if_neg (show ¬ ((first :: rest).length : Int) = 0 by omega), if_pos (show (0 : Int) < ((first :: rest).length : Int) by omega), hr0, toBA_size, hw]
    refine Ev.bind (words_f 32 first (by omega)) ?_
    have long : first.length > 200 ∨ rest.length > 16 → Ev (fun k => head_Parse.j0 k ((first :: rest).map toBA) ((wordsL 32 first).map toBA) true) (hT (parseL (first :: rest))) := by
      intro h
      rw [parseL, if_pos h]
      refine Ev.step' ?_
      simp only [head_Parse.j0, if_true, bad_f, Option.bind_some]
      exact Ev.now _
    have short : ¬ (first.length > 200 ∨ rest.length > 16) → Ev (fun k => head_Parse.j0 k ((first :: rest).map toBA) ((wordsL 32 first).map toBA) false) (hT (parseL (first :: rest))) := by
      intro h
      rw [parseL, if_neg h]
      have hwl := words_len_le 32 first []
      refine Ev.step' ?_
      simp only [head_Parse.j0, Bool.false_eq_true, if_false, List.length_map]
      have no : Ev (fun k => head_Parse.j1 k ((first :: rest).map toBA) ((wordsL 32 first).map toBA) true) (hT (badL 400)) := by
        refine Ev.step' ?_
        simp only [head_Parse.j1, if_true, bad_f, Option.bind_some]
        exact Ev.now _
      rw [show wordsL 32 first = wordsGo 32 [] first from rfl] at *
      generalize wordsGo 32 [] first = ws at *
      match ws, hwl, no with
      | [], _, no => simpa using no
      | [_], _, no => simpa using no
      | [_, _], _, no => simpa using no
      | [m, t, v], hwl, no =>
        have hm := hwl m (by simp)
        have ht := hwl t (by simp)
        have r0 : rdOf ByteArray.empty ([m, t, v].map toBA) 0 = toBA m := rfl
        have r1 : rdOf ByteArray.empty ([m, t, v].map toBA) 1 = toBA t := rfl
        have r2 : rdOf ByteArray.empty ([m, t, v].map toBA) 2 = toBA v := rfl
        have l3 : ([m, t, v] : List (List UInt8)).length = 3 := rfl
        simp only [l3, if_pos (show ((3 : Nat) : Int) = 3 by omega), if_pos (show (0 : Int) < ((3 : Nat) : Int) by omega), if_pos (show (1 : Int) < ((3 : Nat) : Int) by omega), r0, r1]
        simp only [List.length_nil] at hm ht
        refine Ev.bind (token_f m (by omega)) ?_
        cases hmt : tokenL m with
        | false => simpa [firstL, hmt] using no
        | true =>
          simp only [if_true, toBA_toList, toBA_size]
          cases t with
          | nil => simpa [firstL, slash1] using no
          | cons c t' =>
            have hb : bt (toBA (c :: t')) 0 = (c.toNat : Int) := bt_mid [] t' c
            simp only [if_neg (show ¬ (c :: t') = ([] : List UInt8) by simp), if_pos (show (0 : Int) < ((c :: t').length : Int) by simp only [List.length_cons]; omega), hb]
            by_cases hc : c.toNat = 47
            · simp only [if_pos (show (c.toNat : Int) = 47 by omega), value_f, Option.bind_some]
              cases hv : valueL (c :: t') with
              | false => simpa [firstL, hv] using no
              | true =>
                have e : firstL m (c :: t') = true := by simp [firstL, hmt, slash1, hc, hv]
                simp only [e, if_true, Bool.not_true]
                refine Ev.step' ?_
                simp only [head_Parse.j1, Bool.false_eq_true, if_false, List.length_map, l3, if_pos (show (2 : Int) < ((3 : Nat) : Int) by omega), if_pos (show (0 : Int) < ((3 : Nat) : Int) by omega), if_pos (show (1 : Int) < ((3 : Nat) : Int) by omega), r0, r1, r2, toBA_toList]
                by_cases hver : v = sVer
                · have d : ((first :: rest).map toBA).drop 1 = rest.map toBA := rfl
                  simp only [if_pos (show v = ([72, 84, 84, 80, 47, 49, 46, 49] : List UInt8) from hver), if_pos hver, if_pos (show (1 : Int) ≤ ((first :: rest).length : Int) by omega), d, Option.bind_some, List.length_map]
                  have := parse_l0 m (c :: t') rest (by omega) (fun l h => hl l (by simp [h])) rest [] [] rfl rfl (by simp)
                  exact this
                · simp only [if_neg (show ¬ v = ([72, 84, 84, 80, 47, 49, 46, 49] : List UInt8) from hver), if_neg hver, bad_f, Option.bind_some]
                  exact Ev.now _
            · simpa [firstL, slash1, hc, show ¬ (c.toNat : Int) = 47 by omega] using no
      | a :: b :: c :: d :: e, _, no =>
        simp only [if_neg (show ¬ ((a :: b :: c :: d :: e).length : Int) = 3 by simp only [List.length_cons]; omega)]
        exact no
    by_cases h1 : first.length > 200
    · simp only [if_pos (show (first.length : Int) > 200 by omega)]
      exact long (.inl h1)
    · simp only [if_neg (show ¬ (first.length : Int) > 200 by omega)]
      by_cases h2 : rest.length > 16
      · simp only [decide_eq_true (show (rest.length : Int) > 16 by omega)]
        exact long (.inr h2)
      · simp only [decide_eq_false (show ¬ (rest.length : Int) > 16 by omega)]
        exact short (by omega)
end Go.Proofs.YtldaingkcnmaoaaDoor.M
namespace Go.Proofs.YtldaingkcnmaoaaDoor.M
open Go.RowKit Go.Proofs.YtldaingkcnmaoaaDoorW.PrintWords Go.Proofs.YtldaingkcnmaoaaDoor.X
theorem words3 (a b c : List UInt8) (ha : ∀ x ∈ a, x.toNat ≠ 32) (hb : ∀ x ∈ b, x.toNat ≠ 32) (hc : ∀ x ∈ c, x.toNat ≠ 32) : wordsL 32 (a ++ 32 :: (b ++ 32 :: c)) = [a, b, c] := by
  have k (l : List UInt8) (h : ∀ x ∈ l, x.toNat ≠ 32) : ∀ x ∈ l, (x.toNat : Int) ≠ ((32 : UInt8).toNat : Int) := fun x hx e => h x hx (by have : ((32 : UInt8).toNat : Int) = 32 := rfl; omega)
  have h1 := wordsGo_app 32 a (b ++ 32 :: c) [] (k a ha)
  have h2 := wordsGo_app 32 b c [] (k b hb)
  have h3 := wordsGo_nosep ((32 : UInt8).toNat : Int) c [] (k c hc)
  rw [h2, h3] at h1
  exact h1
theorem parse_plain (a b : List UInt8) (rest : List (List UInt8)) (fs : List FldM) (ha : ∀ x ∈ a, x.toNat ≠ 32) (hb : ∀ x ∈ b, x.toNat ≠ 32)
    (hl : a.length + b.length ≤ 190) (hr : rest.length ≤ 16) (hf : firstL a b = true) (hfs : fieldsL rest = some fs) : parseL ((a ++ 32 :: (b ++ 32 :: sVer)) :: rest) = frameL a b fs := by
  have hv : sVer.length = 8 := rfl
  rw [parseL, if_neg (by simp only [List.length_append, List.length_cons, hv]; omega), words3 a b sVer ha hb (by decide)]
  simp only [hf, if_true, hfs]
end Go.Proofs.YtldaingkcnmaoaaDoor.M
namespace Go.Proofs.YtldaingkcnmaoaaDoor.M
open Go.RowKit Go.Proofs.YtldaingkcnmaoaaDoorW.PrintWords Go.Proofs.YtldaingkcnmaoaaDoor.X
theorem wordsL_len_le (b : Int) (l : List UInt8) : ∀ w ∈ wordsL b l, w.length ≤ l.length := fun w hw => by have := words_len_le b l [] w hw; simpa using this
def firstW (l : List UInt8) : List UInt8 := (wordsL 59 l).headD []
def wholeL (b : BodyS) (l : List UInt8) : BodyS :=
  if b.st = 0 then sizeB b (numL 16 (firstW l)).1 (numL 16 (firstW l)).2
  else if b.st = 2 then { (if l = [] then b else failB b 400) with st := 0 }
  else { b with done := l.isEmpty }
def lineL (b : BodyS) (c : UInt8) : BodyS :=
  if b.line.length > 200 then failB b 431
  else if c.toNat ≠ 10 then (if crAt b.line = true then failB b 400 else b)
  else if crAt b.line = true then wholeL { b with line := [] } (b.line.take (b.line.length - 2))
  else failB b 400
def stepB (b : BodyS) (c : UInt8) : BodyS :=
  if b.done = true then b
  else if b.ch = false then { takeB b c with done := (takeB b c).done || ((takeB b c).left == 0) }
  else if b.st = 1 then (if (takeB b c).left = 0 then { takeB b c with st := 2 } else takeB b c)
  else lineL { b with line := b.line ++ [c] } c
theorem whole_f (b : BodyS) (l : List UInt8) (hl : l.length ≤ 100000) : Ev (fun k => wholeF k b (strOfNums (nts l))) (wholeL b l) := by
  have e : strOfNums (nts l) = toBA l := strOfNums_nats l
  rw [e]
  unfold wholeF wholeL
  by_cases h0 : b.st = 0
  · simp only [if_pos h0]
    refine Ev.bind (words_f 59 l (by omega)) ?_
    have hw := wordsGo_ne 59 l []
    have hlen := wordsL_len_le 59 l
    unfold firstW
    rw [show wordsGo 59 [] l = wordsL 59 l from rfl] at hw
    cases hx : wordsL 59 l with
    | nil => exact absurd hx hw
    | cons x r =>
      have hxl : x.length ≤ l.length := hlen x (by rw [hx]; simp)
      simp only [List.map_cons, List.length_cons, if_pos (show (0 : Int) < ((((List.map toBA r).length + 1 : Nat)) : Int) by omega), List.headD_cons]
      have er : rdOf ByteArray.empty (toBA x :: List.map toBA r) 0 = toBA x := by simp [rdOf]
      rw [er]
      refine Ev.bind (number_f 16 (.inr rfl) x (by omega)) ?_
      exact Ev.now _
  · simp only [if_neg h0]
    by_cases h2 : b.st = 2
    · simp only [if_pos h2, toBA_toList]; exact Ev.now _
    · simp only [if_neg h2, toBA_toList]; exact Ev.now _
theorem line_f (b : BodyS) (c : UInt8) (hl : b.line.length ≤ 100000) : Ev (fun k => lineF k b c) (lineL b c) := by
  unfold lineF lineL
  by_cases h2 : b.line.length > 200
  · simp only [if_pos h2]; exact Ev.now _
  · simp only [if_neg h2]
    by_cases h10 : c.toNat ≠ 10
    · simp only [if_pos h10]; exact Ev.now _
    · simp only [if_neg h10]
      by_cases hc : crAt b.line = true
      · simp only [if_pos hc]
        exact whole_f _ _ (by rw [List.length_take]; omega)
      · simp only [if_neg hc]; exact Ev.now _
def FitB (b : BodyS) : Prop := b.data.length ≤ 600 ∧ (b.done = true ∨ b.line.length ≤ 200)
theorem feed_f (b : BodyS) (c : UInt8) (h : FitB b) : Ev (fun k => body_Body_Feed.f k b (c.toNat : Int)) (stepB b c) := by
  have hc := u8_lt c
  have hq : (0 : Int) ≤ (c.toNat : Int) ∧ (c.toNat : Int) ≤ 255 ∧ b.data.length ≤ 600 ∧ (b.done = true ∨ b.line.length ≤ 200) := ⟨by omega, by omega, h.1, h.2⟩
  have e : UInt8.ofNat (c.toNat : Int).toNat = c := by apply UInt8.toNat_inj.1; simp only [Int.toNat_natCast, UInt8.toNat_ofNat']; omega
  unfold body_Body_Feed.f
  simp only [if_pos hq, e]
  unfold feedF stepB
  by_cases hd : b.done = true
  · simp only [if_pos hd]; exact Ev.now _
  · simp only [if_neg hd]
    by_cases hch : b.ch = false
    · simp only [if_pos hch]; exact Ev.now _
    · simp only [if_neg hch]
      by_cases h1 : b.st = 1
      · simp only [if_pos h1]; exact Ev.now _
      · simp only [if_neg h1]
        have hl : b.line.length ≤ 200 := h.2.resolve_left hd
        exact line_f _ c (by show (b.line ++ [c]).length ≤ _; simp; omega)
theorem take_fit (b : BodyS) (c : UInt8) (h : b.data.length ≤ 600) : (takeB b c).data.length ≤ 600 ∧ (takeB b c).line = b.line := by
  unfold takeB
  split
  · exact ⟨h, rfl⟩
  · rename_i hn
    refine ⟨?_, rfl⟩
    show (b.data ++ [c]).length ≤ 600
    simp only [List.length_append, List.length_cons, List.length_nil]
    omega
theorem size_fit (b : BodyS) (n : Int) (ok : Bool) : (sizeB b n ok).data = b.data ∧ (sizeB b n ok).line = b.line := by
  unfold sizeB failB
  split
  · exact ⟨rfl, rfl⟩
  · split
    · exact ⟨rfl, rfl⟩
    · split <;> exact ⟨rfl, rfl⟩
theorem whole_fit (b : BodyS) (l : List UInt8) : (wholeL b l).data = b.data ∧ (wholeL b l).line = b.line := by
  unfold wholeL
  split
  · exact size_fit _ _ _
  · split
    · split <;> exact ⟨rfl, rfl⟩
    · exact ⟨rfl, rfl⟩
theorem step_fit (b : BodyS) (c : UInt8) (h : FitB b) : FitB (stepB b c) := by
  have ht := take_fit b c h.1
  unfold stepB
  split
  · exact h
  · rename_i hd
    have hl : b.line.length ≤ 200 := h.2.resolve_left hd
    split
    · exact ⟨ht.1, .inr (by show (takeB b c).line.length ≤ 200; rw [ht.2]; exact hl)⟩
    · split
      · split
        · exact ⟨ht.1, .inr (by show (takeB b c).line.length ≤ 200; rw [ht.2]; exact hl)⟩
        · exact ⟨ht.1, .inr (by rw [ht.2]; exact hl)⟩
      · unfold lineL
        split
        · exact ⟨h.1, .inl rfl⟩
        · rename_i h2
          split
          · split
            · exact ⟨h.1, .inl rfl⟩
            · exact ⟨h.1, .inr (by omega)⟩
          · split
            · have := whole_fit { { b with line := b.line ++ [c] } with line := [] } ((b.line ++ [c]).take ((b.line ++ [c]).length - 2))
              exact ⟨by rw [this.1]; exact h.1, .inr (by rw [this.2]; simp)⟩
            · exact ⟨h.1, .inl rfl⟩
def runB : BodyS → List UInt8 → BodyS × Nat
  | b, [] => (b, 0)
  | b, c :: s => if b.done = true then (b, 0) else ((runB (stepB b c) s).1, (runB (stepB b c) s).2 + 1)
theorem newB_fit (n : Int) : FitB (newB n) := ⟨by simp [newB], .inr (by simp [newB])⟩
theorem Ev.ofMono {α : Type} {g : Nat → Option α} {r : α} (hm : ∀ k, LeO (g k) (g (k + 1))) (k : Nat) (h : g k = some r) : Ev g r := by
  refine ⟨k, fun k' hk => ?_⟩
  obtain ⟨m, rfl⟩ : ∃ m, k' = k + m := ⟨k' - k, by omega⟩
  clear hk
  induction m with
  | zero => exact h
  | succ m ih => exact hm (k + m) r ih
end Go.Proofs.YtldaingkcnmaoaaDoor.M
namespace Go.Proofs.YtldaingkcnmaoaaDoor.M
open Go.RowKit Go.Proofs.YtldaingkcnmaoaaDoorW.PrintWords Go.Proofs.YtldaingkcnmaoaaDoor.X
theorem crAt_snoc (l : List UInt8) (a : UInt8) : crAt (l ++ [a]) = decide (l.getLast? = some 13) := by
  unfold crAt
  rw [List.getLast?_eq_getElem?]
  cases l with
  | nil => simp
  | cons x r =>
    have e : (x :: r ++ [a]).length - 2 = (x :: r).length - 1 := by simp
    rw [e, List.getElem?_append_left (by simp)]
    have h2 : 2 ≤ (x :: r ++ [a]).length := by simp
    simp only [h2, true_and]
def lnB (st : Int) (d cur : List UInt8) : BodyS := { ch := true, left := 0, st := st, line := cur, data := d, status := 0, done := false }
def Clean (l : List UInt8) : Prop := ∀ c ∈ l, c.toNat ≠ 13 ∧ c.toNat ≠ 10
theorem clean_last {l : List UInt8} (h : Clean l) : decide (l.getLast? = some 13) = false := by
  refine decide_eq_false fun e => ?_
  have := h 13 (List.mem_of_getLast? e)
  exact this.1 rfl
theorem ln_step (st : Int) (hst : st ≠ 1) (d cur : List UInt8) (c : UInt8) (hc : c.toNat ≠ 10) (hcur : Clean cur) (hl : cur.length + 1 ≤ 200) : stepB (lnB st d cur) c = lnB st d (cur ++ [c]) := by
  have h1 : ¬ (lnB st d cur).done = true := by simp [lnB]
  have h2 : ¬ (lnB st d cur).ch = false := by simp [lnB]
  have h3 : ¬ (lnB st d cur).st = 1 := hst
  have h4 : ¬ ({ lnB st d cur with line := (lnB st d cur).line ++ [c] } : BodyS).line.length > 200 := by show ¬ (cur ++ [c]).length > 200; simp; omega
  have h5 : ¬ crAt ({ lnB st d cur with line := (lnB st d cur).line ++ [c] } : BodyS).line = true := by
    show ¬ crAt (cur ++ [c]) = true
    rw [crAt_snoc, clean_last hcur]; decide
  rw [stepB, if_neg h1, if_neg h2, if_neg h3, lineL, if_neg h4, if_pos hc, if_neg h5]
  rfl
theorem ln_end (st : Int) (hst : st ≠ 1) (d cur : List UInt8) (hl : cur.length + 2 ≤ 200) : stepB (lnB st d (cur ++ [13])) 10 = wholeL (lnB st d []) cur := by
  have h1 : ¬ (lnB st d (cur ++ [13])).done = true := by simp [lnB]
  have h2 : ¬ (lnB st d (cur ++ [13])).ch = false := by simp [lnB]
  have h3 : ¬ (lnB st d (cur ++ [13])).st = 1 := hst
  have h4 : ¬ ({ lnB st d (cur ++ [13]) with line := (lnB st d (cur ++ [13])).line ++ [10] } : BodyS).line.length > 200 := by show ¬ ((cur ++ [13]) ++ [10]).length > 200; simp; omega
  have h6 : ¬ (10 : UInt8).toNat ≠ 10 := by decide
  have h5 : crAt ({ lnB st d (cur ++ [13]) with line := (lnB st d (cur ++ [13])).line ++ [10] } : BodyS).line = true := by
    show crAt ((cur ++ [13]) ++ [10]) = true
    rw [crAt_snoc]; simp
  have e : ((cur ++ [13]) ++ [10] : List UInt8).take (((cur ++ [13]) ++ [10]).length - 2) = cur := by simp
  rw [stepB, if_neg h1, if_neg h2, if_neg h3, lineL, if_neg h4, if_neg h6, if_pos h5]
  show wholeL (lnB st d []) (((cur ++ [13]) ++ [10]).take (((cur ++ [13]) ++ [10]).length - 2)) = _
  rw [e]
theorem run_cons (b : BodyS) (c : UInt8) (s : List UInt8) (h : b.done = false) : runB b (c :: s) = ((runB (stepB b c) s).1, (runB (stepB b c) s).2 + 1) := by
  rw [runB, if_neg (by rw [h]; decide)]
theorem line_run (st : Int) (hst : st ≠ 1) (d : List UInt8) (rest w : List UInt8) : ∀ cur : List UInt8, Clean cur → Clean w → cur.length + w.length + 2 ≤ 200 →
    runB (lnB st d cur) (w ++ 13 :: 10 :: rest) = ((runB (wholeL (lnB st d []) (cur ++ w)) rest).1, (runB (wholeL (lnB st d []) (cur ++ w)) rest).2 + (w.length + 2)) := by
  induction w with
  | nil =>
    intro cur h1 h2 hl
    simp only [List.length_nil] at hl
    rw [List.nil_append, run_cons _ _ _ rfl, ln_step st hst d cur 13 (by decide) h1 (by omega), run_cons _ _ _ rfl, ln_end st hst d cur (by omega), List.append_nil]
    rfl
  | cons c r ih =>
    intro cur h1 h2 hl
    simp only [List.length_cons] at hl
    have hc := h2 c (by simp)
    have hcur : Clean (cur ++ [c]) := fun x hx => by
      rcases List.mem_append.1 hx with hx | hx
      · exact h1 x hx
      · rw [List.mem_singleton.1 hx]; exact hc
    rw [List.cons_append, run_cons _ _ _ rfl, ln_step st hst d cur c hc.2 h1 (by omega), ih (cur ++ [c]) hcur (fun x hx => h2 x (by simp [hx])) (by simp; omega)]
    simp only [List.append_assoc, List.singleton_append, List.length_cons]
    exact Prod.ext rfl (by show _ + 1 = _; omega)
def dtB (m : Nat) (d : List UInt8) : BodyS := { ch := true, left := (m : Int), st := if m = 0 then 2 else 1, line := [], data := d, status := 0, done := false }
theorem dt_step (m : Nat) (d : List UInt8) (c : UInt8) (hd : d.length < 600) (hm : m < 100000) : stepB (dtB (m + 1) d) c = dtB m (d ++ [c]) := by
  have h1 : ¬ (dtB (m + 1) d).done = true := by simp [dtB]
  have h2 : ¬ (dtB (m + 1) d).ch = false := by simp [dtB]
  have h3 : (dtB (m + 1) d).st = 1 := by simp [dtB]
  have h4 : ¬ (dtB (m + 1) d).data.length = 600 := by show ¬ d.length = 600; omega
  have hw : wrap64 ((dtB (m + 1) d).left - 1) = (m : Int) := by
    show wrap64 (((m + 1 : Nat) : Int) - 1) = _
    rw [w64 (by omega) (by omega)]; omega
  have ht : takeB (dtB (m + 1) d) c = { dtB (m + 1) d with data := d ++ [c], left := (m : Int) } := by rw [takeB, if_neg h4, hw]; rfl
  rw [stepB, if_neg h1, if_neg h2, if_pos h3, ht]
  by_cases h0 : m = 0
  · subst h0; rfl
  · rw [if_neg (show ¬ ((m : Nat) : Int) = 0 by omega)]
    simp [dtB, h0]
theorem data_run (rest p : List UInt8) : ∀ d : List UInt8, d.length + p.length ≤ 600 → runB (dtB p.length d) (p ++ rest) = ((runB (lnB 2 (d ++ p) []) rest).1, (runB (lnB 2 (d ++ p) []) rest).2 + p.length) := by
  induction p with
  | nil => intro d _; rw [List.append_nil]; rfl
  | cons c r ih =>
    intro d h
    simp only [List.length_cons] at h
    rw [List.cons_append, run_cons _ _ _ rfl, List.length_cons, dt_step r.length d c (by omega) (by omega), ih (d ++ [c]) (by simp; omega)]
    simp only [List.append_assoc, List.singleton_append]
    exact Prod.ext rfl (by show _ + 1 = _; omega)
theorem run_done (b : BodyS) (s : List UInt8) (h : b.done = true) : runB b s = (b, 0) := by
  cases s with
  | nil => rfl
  | cons c r => rw [runB, if_pos h]
theorem whole_size (d w : List UInt8) (n : Nat) (hn : numL 16 (firstW w) = ((n : Int), true)) (h0 : n ≠ 0) (h6 : n ≤ 600) : wholeL (lnB 0 d []) w = dtB n d := by
  rw [wholeL, if_pos (show (lnB 0 d []).st = 0 from rfl), hn]
  show sizeB (lnB 0 d []) (n : Int) true = _
  rw [sizeB, if_neg (by decide), if_neg (by omega), if_neg (by omega)]
  simp [lnB, dtB, h0]
theorem chunk_run (d w p rest : List UInt8) (hw : Clean w) (hwl : w.length ≤ 100) (hn : numL 16 (firstW w) = ((p.length : Int), true)) (hp : p ≠ []) (h6 : d.length + p.length ≤ 600) :
    runB (lnB 0 d []) (w ++ 13 :: 10 :: (p ++ 13 :: 10 :: rest)) = ((runB (lnB 0 (d ++ p) []) rest).1, (runB (lnB 0 (d ++ p) []) rest).2 + (w.length + 2 + p.length + 2)) := by
  have h0 : p.length ≠ 0 := fun e => hp (List.eq_nil_of_length_eq_zero e)
  have e2 : wholeL (lnB 2 (d ++ p) []) [] = lnB 0 (d ++ p) [] := rfl
  have h2 := line_run 2 (by decide) (d ++ p) rest [] [] (fun _ h => by cases h) (fun _ h => by cases h) (by decide)
  rw [List.nil_append, List.nil_append, e2] at h2
  rw [line_run 0 (by decide) d _ w [] (fun _ h => by cases h) hw (by simp; omega), List.nil_append, whole_size d w _ hn h0 (by omega), data_run _ p d h6, h2]
  exact Prod.ext rfl (by show _ + _ + _ + _ = _; simp only [List.length_nil]; omega)
theorem nought_run (d rest : List UInt8) : runB (lnB 0 d []) (48 :: 13 :: 10 :: rest) = ((runB (lnB 3 d []) rest).1, (runB (lnB 3 d []) rest).2 + 3) := by
  have h := line_run 0 (by decide) d rest [48] [] (fun _ h => by cases h) (fun c h => by rw [List.mem_singleton.1 h]; decide) (by decide)
  have e : wholeL (lnB 0 d []) ([] ++ [48]) = lnB 3 d [] := by
    rw [wholeL, if_pos (show (lnB 0 d []).st = 0 from rfl)]
    rw [show numL 16 (firstW ([] ++ [48])) = (0, true) by decide +kernel]
    rfl
  rw [e] at h
  exact h
theorem end_run (d rest : List UInt8) : runB (lnB 3 d []) (13 :: 10 :: rest) = ({ lnB 3 d [] with done := true }, 2) := by
  have h := line_run 3 (by decide) d rest [] [] (fun _ h => by cases h) (fun _ h => by cases h) (by decide)
  have e : wholeL (lnB 3 d []) ([] ++ []) = { lnB 3 d [] with done := true } := rfl
  rw [e, run_done { lnB 3 d [] with done := true } rest rfl] at h
  exact h
theorem newB_chunks : newB (-1) = lnB 0 [] [] := rfl
end Go.Proofs.YtldaingkcnmaoaaDoor.M

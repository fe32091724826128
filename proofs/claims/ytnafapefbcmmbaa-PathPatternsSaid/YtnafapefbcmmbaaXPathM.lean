/- path's functions as they are printed, and what they answer: in plain lists. -/
import Derived.Test.YtnafapefbcmmbaaXWordsFacts
import Derived.Test.YtnafapefbcmmbaaX4
import Derived.Test.YtnafapefbcmmbaaX5
import Derived.Test.YtnafapefbcmmbaaX9
import Derived.Test.YtnafapefbcmmbaaX11
set_option linter.unusedVariables false
set_option linter.unusedSimpArgs false
namespace Go.Proofs.Ytnafapefbcmmbaa.M
open Go.RowKit Go.Proofs.YtnafapefbcmmbaaW.PrintWords Go.Proofs.Ytnafapefbcmmbaa.X

theorem rdOf_mid (pre : List (List UInt8)) (w : List UInt8) (r : List (List UInt8)) : rdOf ByteArray.empty ((pre ++ w :: r).map toBA) (pre.length : Int) = toBA w := by simp [rdOf]
theorem words_len_le (b : Int) (l : List UInt8) : ∀ cur, ∀ w ∈ wordsGo b cur l, w.length ≤ cur.length + l.length := by
  induction l with
  | nil => intro cur w hw; simp only [wordsGo, List.mem_singleton] at hw; subst hw; simp
  | cons c r ih =>
    intro cur w hw
    simp only [wordsGo] at hw
    split at hw
    · rcases List.mem_cons.1 hw with rfl | hw
      · simp
      · have := ih [] w hw; simp at this ⊢; omega
    · have := ih (cur ++ [c]) w hw; simp at this ⊢; omega
theorem wordsL_len_le (b : Int) (l : List UInt8) : ∀ w ∈ wordsL b l, w.length ≤ l.length := fun w hw => by have := words_len_le b l [] w hw; simpa using this
theorem wordsL_count_le (b : Int) (l : List UInt8) : (wordsL b l).length ≤ l.length + 1 := wordsGo_len b l []

/-! ### turn -/
def byteOf (n : Int) : UInt8 := UInt8.ofNat n.toNat
theorem byteOf_mod (n : Int) (h : 0 ≤ n) : n % 256 = ((byteOf n).toNat : Int) := by
  simp only [byteOf, UInt8.toNat_ofNat']; omega
def turnL : List UInt8 → Option (List UInt8)
  | [] => some []
  | c :: r =>
    if c.toNat = 37 then (match r with
      | a :: b :: r' => if (numL 16 [a, b]).2 = true then (turnL r').map fun t => byteOf (numL 16 [a, b]).1 :: t else none
      | _ => none) else (turnL r).map fun t => c :: t
termination_by l => l.length
decreasing_by all_goals (simp_all <;> omega)
theorem turnL_nil : turnL [] = some [] := by rw [turnL.eq_def]
theorem turnL_other (c : UInt8) (r : List UInt8) (h : c.toNat ≠ 37) : turnL (c :: r) = (turnL r).map fun t => c :: t := by
  rw [turnL.eq_def]; simp only [if_neg h]
theorem turnL_pct0 (c : UInt8) (h : c.toNat = 37) : turnL [c] = none := by
  rw [turnL.eq_def]; simp only [if_pos h]
theorem turnL_pct1 (c a : UInt8) (h : c.toNat = 37) : turnL [c, a] = none := by
  rw [turnL.eq_def]; simp only [if_pos h]
theorem turnL_pct (c a b : UInt8) (r : List UInt8) (h : c.toNat = 37) : turnL (c :: a :: b :: r) = if (numL 16 [a, b]).2 = true then (turnL r).map fun t => byteOf (numL 16 [a, b]).1 :: t else none := by
  rw [turnL.eq_def]; simp only [if_pos h]
def nats (l : List UInt8) : List Int := l.map fun b => (b.toNat : Int)
theorem turn_l0 (l : List UInt8) (hl : l.length ≤ 100000) (n : Nat) : ∀ (post pre acc : List UInt8), post.length ≤ n → l = pre ++ post → acc.length ≤ pre.length →
    Ev (fun k => path_turn.l0 k (toBA l) (nats acc) (pre.length : Int)) (match turnL post with
      | some r => (toBA (acc ++ r), true)
      | none => (toBA [], false)) := by
  induction n with
  | zero =>
    intro post pre acc hp h ha
    obtain rfl : post = [] := by cases post with | nil => rfl | cons c r => simp at hp
    have hpl : pre.length = l.length := by subst h; simp
    refine Ev.step' ?_
    simp only [path_turn.l0, toBA_size, if_neg (show ¬ (pre.length : Int) < (l.length : Int) by omega), turnL_nil, nats, strOfNums_nats, List.append_nil]
    exact Ev.now _
  | succ n ih =>
    intro post pre acc hp h ha
    cases post with
    | nil =>
      have hpl : pre.length = l.length := by subst h; simp
      refine Ev.step' ?_
      simp only [path_turn.l0, toBA_size, if_neg (show ¬ (pre.length : Int) < (l.length : Int) by omega), turnL_nil, nats, strOfNums_nats, List.append_nil]
      exact Ev.now _
    | cons c r =>
      have hlen : l.length = pre.length + 1 + r.length := by subst h; simp; omega
      have hb : bt (toBA l) (pre.length : Int) = (c.toNat : Int) := by rw [h]; exact bt_mid _ _ _
      have na : (nats acc).length = acc.length := by simp [nats]
      refine Ev.step' ?_
      simp only [path_turn.l0, toBA_size, if_pos (show (pre.length : Int) < (l.length : Int) by omega), if_pos (show (0 : Int) ≤ (pre.length : Int) by omega), hb, w64 (x := (pre.length : Int) + 1) (by omega) (by omega), w64 (x := (pre.length : Int) + 2) (by omega) (by omega), w64 (x := (pre.length : Int) + 3) (by omega) (by omega), w64 (x := (pre.length : Int) + 2 + 1) (by omega) (by omega), show (pre.length : Int) + 2 + 1 = (pre.length : Int) + 3 by omega, na]
      by_cases hc : c.toNat = 37
      · simp only [if_pos (show (c.toNat : Int) = 37 by omega)]
        match r, hlen, h, hp with
        | [], hlen, h, hp =>
          simp only [List.length_nil] at hlen
          simp only [turnL_pct0 c hc, if_pos (show (pre.length : Int) + 2 ≥ (l.length : Int) by omega)]
          exact Ev.now _
        | [a], hlen, h, hp =>
          simp only [List.length_singleton] at hlen
          simp only [turnL_pct1 c a hc, if_pos (show (pre.length : Int) + 2 ≥ (l.length : Int) by omega)]
          exact Ev.now _
        | a :: b :: r', hlen, h, hp =>
          simp only [List.length_cons] at hlen hp
          have ex : (toBA l).extract ((pre.length : Int) + 1).toNat ((pre.length : Int) + 3).toNat = toBA [a, b] := by
            rw [toBA_extract, h, show ((pre.length : Int) + 1).toNat = pre.length + 1 by omega, show ((pre.length : Int) + 3).toNat - (pre.length + 1) = 2 by omega, ← List.drop_drop, List.drop_left]
            rfl
          simp only [turnL_pct c a b r' hc, if_neg (show ¬ (pre.length : Int) + 2 ≥ (l.length : Int) by omega), if_pos (show (0 : Int) ≤ (pre.length : Int) + 1 by omega), if_pos (show (pre.length : Int) + 1 ≤ (pre.length : Int) + 3 by omega), if_pos (show (pre.length : Int) + 3 ≤ (l.length : Int) by omega), ex]
          refine Ev.bind (number_f 16 (.inr rfl) [a, b] (by simp)) ?_
          cases hn : (numL 16 [a, b]).2 with
          | false => simp only [Bool.false_eq_true, if_false]; exact Ev.now _
          | true =>
            have hbd := numL_bd 16 (.inr rfl) [a, b]
            simp only [if_true, if_pos (show acc.length < 140737488355328 by omega), byteOf_mod _ hbd.1]
            have e : nats acc ++ [((byteOf (numL 16 [a, b]).1).toNat : Int)] = nats (acc ++ [byteOf (numL 16 [a, b]).1]) := by simp [nats]
            have := ih r' (pre ++ [c, a, b]) (acc ++ [byteOf (numL 16 [a, b]).1]) (by omega) (by simp [h]) (by simp; omega)
            rw [show ((pre ++ [c, a, b]).length : Int) = (pre.length : Int) + 3 by simp] at this
            rw [e]
            cases ht : turnL r' with
            | none => simpa [ht] using this
            | some t => simpa [ht] using this
      · simp only [if_neg (show ¬ (c.toNat : Int) = 37 by omega), turnL_other c r hc, if_pos (show acc.length < 140737488355328 by omega)]
        have e : nats acc ++ [(c.toNat : Int)] = nats (acc ++ [c]) := by simp [nats]
        have := ih r (pre ++ [c]) (acc ++ [c]) (by simp at hp; omega) (by simp [h]) (by simp; omega)
        rw [show ((pre ++ [c]).length : Int) = (pre.length : Int) + 1 by simp] at this
        rw [e]
        cases ht : turnL r with
        | none => simpa [ht] using this
        | some t => simpa [ht] using this
theorem turn_f (l : List UInt8) (hl : l.length ≤ 100000) : Ev (fun k => path_turn.f k (toBA l)) (match turnL l with
    | some r => (toBA r, true)
    | none => (toBA [], false)) := turn_l0 l hl l.length l [] [] (Nat.le_refl _) rfl (Nat.le_refl _)

/-! ### Split -/
def slash1 : List UInt8 → Bool
  | [] => false
  | c :: _ => decide (c.toNat = 47)
def turnsL : List (List UInt8) → Option (List (List UInt8))
  | [] => some []
  | w :: r => match turnL w with
    | none => none
    | some v => (turnsL r).map fun t => v :: t
abbrev SegsR := List (List UInt8) × Bool
def segsT (p : SegsR) : List ByteArray × Bool := (p.1.map toBA, p.2)
def splitT (t : List UInt8) : SegsR :=
  if slash1 t = false then ([], false) else if t = [47] then ([], true) else if (wordsL 47 t.tail).length > 8 then ([], false) else
    match turnsL (wordsL 47 t.tail) with
    | some l => (l, true)
    | none => ([], false)
theorem splitT_cons (c : UInt8) (t : List UInt8) (hc : c.toNat = 47) : splitT (c :: t) = if (c :: t) = [47] then ([], true) else if (wordsL 47 t).length > 8 then ([], false) else
    match turnsL (wordsL 47 t) with
    | some l => (l, true)
    | none => ([], false) := by
  rw [splitT, if_neg (by simp [slash1, hc])]; rfl
theorem splitT_no (c : UInt8) (t : List UInt8) (hc : c.toNat ≠ 47) : splitT (c :: t) = ([], false) := by
  rw [splitT, if_pos (by simp [slash1, hc])]
def beforeQ (s : List UInt8) : List UInt8 := (wordsL 63 s).headD []
def splitL (s : List UInt8) : SegsR := splitT (beforeQ s)
theorem split_l0 (post : List (List UInt8)) (hp : ∀ w ∈ post, w.length ≤ 100000) (n : Nat) (hn : n ≤ 100000) : ∀ don : List (List UInt8), don.length + post.length = n →
    Ev (fun k => path_Split.l0 k ((don ++ post).map toBA) (n : Int) (don.length : Int)) (segsT (match turnsL post with
      | some r => (don ++ r, true)
      | none => ([], false))) := by
  induction post with
  | nil =>
    intro don h
    simp only [List.length_nil] at h
    refine Ev.step' ?_
    simp only [path_Split.l0, if_neg (show ¬ (don.length : Int) < (n : Int) by omega), turnsL, List.append_nil]
    exact Ev.now _
  | cons w r ih =>
    intro don h
    simp only [List.length_cons] at h
    have hr : rdOf ByteArray.empty ((don ++ w :: r).map toBA) (don.length : Int) = toBA w := rdOf_mid _ _ _
    have hw : wrap64 ((don.length : Int) + 1) = (don.length : Int) + 1 := w64 (by omega) (by omega)
    refine Ev.step' ?_
    simp only [path_Split.l0, if_pos (show (don.length : Int) < (n : Int) by omega), if_pos (show (0 : Int) ≤ (don.length : Int) by omega), List.length_map, List.length_append, List.length_cons, if_pos (show (don.length : Int) < ((don.length + (r.length + 1) : Nat) : Int) by omega), hr, hw]
    refine Ev.bind (turn_f w (hp w (by simp))) ?_
    simp only [turnsL]
    cases ht : turnL w with
    | none => simp only [Bool.false_eq_true, if_false]; exact Ev.now _
    | some v =>
      simp only [if_true]
      have := ih (fun x hx => hp x (by simp [hx])) (don ++ [v]) (by simp; omega)
      rw [show ((don ++ [v]).length : Int) = (don.length : Int) + 1 by simp] at this
      have e : ((don ++ w :: r).map toBA).set ((don.length : Int)).toNat (toBA v) = ((don ++ [v]) ++ r).map toBA := by
        rw [Int.toNat_natCast, ← List.map_set, List.set_append_right _ _ (Nat.le_refl _), Nat.sub_self]
        simp
      rw [e]
      cases hq : turnsL r with
      | none => simpa [hq] using this
      | some t => simpa [hq] using this
theorem tail_cut (c : UInt8) (t : List UInt8) : (toBA (c :: t)).extract 1 (c :: t).length = toBA t := by
  rw [toBA_extract]; simp
theorem split_f (s : List UInt8) (hs : s.length ≤ 100000) : Ev (fun k => path_Split.f k (toBA s)) (segsT (splitL s)) := by
  simp only [path_Split.f]
  refine Ev.bind (words_f 63 s (by omega)) ?_
  have hne := wordsGo_ne 63 s []
  have hle := wordsL_len_le 63 s
  unfold splitL beforeQ
  rw [show wordsL 63 s = wordsGo 63 [] s from rfl] at *
  cases hw : wordsGo 63 [] s with
  | nil => exact absurd hw hne
  | cons t ws =>
    have ht : t.length ≤ 100000 := by have := hle t (by rw [hw]; simp); omega
    have r0 : rdOf ByteArray.empty ((t :: ws).map toBA) 0 = toBA t := rfl
    simp only [List.length_map, List.length_cons, if_pos (show (0 : Int) < ((ws.length + 1 : Nat) : Int) by omega), r0, toBA_toList, toBA_size, List.headD_cons]
    have no : Ev (fun k => path_Split.j0 k (toBA t) true) (segsT ([], false)) := by
      refine Ev.step' ?_
      simp only [path_Split.j0, if_true]
      exact Ev.now _
    cases t with
    | nil =>
      simp only [if_true]
      exact no
    | cons c t =>
      have hb : bt (toBA (c :: t)) 0 = (c.toNat : Int) := bt_mid [] t c
      simp only [if_neg (show ¬ (c :: t) = ([] : List UInt8) by simp), if_pos (show (0 : Int) < ((c :: t).length : Int) by simp only [List.length_cons]; omega), hb]
      by_cases hc : c.toNat = 47
      · have e : (((c.toNat : Int)) != 47) = false := by rw [hc]; rfl
        rw [e]
        rw [splitT_cons c t hc]
        refine Ev.step' ?_
        simp only [path_Split.j0, Bool.false_eq_true, if_false, toBA_toList, toBA_size]
        by_cases h1 : (c :: t) = [47]
        · simp only [if_pos h1]
          exact Ev.now _
        · simp only [if_neg h1, if_pos (show (1 : Int) ≤ ((c :: t).length : Int) by simp only [List.length_cons]; omega), tail_cut]
          simp only [List.length_cons] at ht
          refine Ev.bind (words_f 47 t (by omega)) ?_
          simp only [List.length_map]
          by_cases h8 : (wordsL 47 t).length > 8
          · simp only [if_pos h8, if_pos (show ((wordsL 47 t).length : Int) > 8 by omega)]
            exact Ev.now _
          · simp only [if_neg h8, if_neg (show ¬ ((wordsL 47 t).length : Int) > 8 by omega)]
            have key := split_l0 (wordsL 47 t) (fun w hw => by have := wordsL_len_le 47 t w hw; omega) (wordsL 47 t).length (by omega) [] (by simp)
            simpa using key
      · have e : (((c.toNat : Int)) != 47) = true := bne_iff_ne.2 (by omega)
        rw [e]
        rw [splitT_no c t hc]
        exact no
theorem beforeQ_go (b : Int) (l : List UInt8) : ∀ cur, (wordsGo b cur l).headD [] = cur ++ l.takeWhile (fun c => !decide ((c.toNat : Int) = b)) := by
  induction l with
  | nil => intro cur; simp [wordsGo]
  | cons c r ih =>
    intro cur
    by_cases h : (c.toNat : Int) = b
    · simp [wordsGo, h]
    · rw [wordsGo, if_neg h, ih]; simp [h]
theorem headD_words (b : Int) (l : List UInt8) : (wordsL b l).headD [] = l.takeWhile (fun c => !decide ((c.toNat : Int) = b)) := by
  rw [wordsL, beforeQ_go]; rfl

/-! ### Kind -/
def kindL : List UInt8 → Int
  | [] => 0
  | c :: _ => if c.toNat = 58 then 1 else if c.toNat = 42 then 2 else 0
theorem kind_f (x : List UInt8) : Ev (fun k => path_Kind.f k (toBA x)) (kindL x) := by
  cases x with
  | nil =>
    simp only [path_Kind.f, toBA_toList, if_true]
    refine Ev.step' ?_
    simp only [path_Kind.j0, Bool.false_eq_true, if_false, toBA_toList, if_true, kindL]
    exact Ev.now _
  | cons c r =>
    have hb : bt (toBA (c :: r)) 0 = (c.toNat : Int) := bt_mid [] r c
    have hne : ¬ (c :: r) = ([] : List UInt8) := by simp
    have hp : (0 : Int) < ((c :: r).length : Int) := by simp only [List.length_cons]; omega
    simp only [path_Kind.f, toBA_toList, if_neg hne, toBA_size, if_pos hp, hb, kindL]
    refine Ev.step' ?_
    by_cases h1 : c.toNat = 58
    · have e : ((c.toNat : Int) == 58) = true := by rw [h1]; rfl
      simp only [path_Kind.j0, e, if_true, if_pos h1]
      exact Ev.now _
    · have e : ((c.toNat : Int) == 58) = false := beq_eq_false_iff_ne.2 (by omega)
      simp only [path_Kind.j0, e, Bool.false_eq_true, if_false, if_neg h1, toBA_toList, if_neg hne, toBA_size, if_pos hp, hb]
      by_cases h2 : c.toNat = 42
      · simp only [if_pos h2, if_pos (show (c.toNat : Int) = 42 by omega)]
        exact Ev.now _
      · simp only [if_neg h2, if_neg (show ¬ (c.toNat : Int) = 42 by omega)]
        exact Ev.now _
theorem kindL_cases (x : List UInt8) : kindL x = 0 ∨ kindL x = 1 ∨ kindL x = 2 := by
  cases x with
  | nil => exact .inl rfl
  | cons c r =>
    by_cases h1 : c.toNat = 58
    · exact .inr (.inl (by simp [kindL, h1]))
    · by_cases h2 : c.toNat = 42
      · exact .inr (.inr (by simp [kindL, h2]))
      · exact .inl (by simp [kindL, h1, h2])

/-! ### Shape -/
def segL (x : List UInt8) : List UInt8 := if kindL x = 0 then 47 :: x else if kindL x = 1 then [47, 58] else [47, 42]
def shapeL (l : List (List UInt8)) : List UInt8 := l.flatMap segL
theorem segL_len (x : List UInt8) (h : x.length ≤ 100000) : (segL x).length ≤ 100001 := by
  unfold segL; (repeat' split) <;> simp <;> omega
theorem shape_l0 (l : List (List UInt8)) (hl : l.length ≤ 100001) (hx : ∀ x ∈ l, x.length ≤ 100000) (post : List (List UInt8)) : ∀ (pre : List (List UInt8)) (acc : List UInt8), l = pre ++ post → acc.length ≤ pre.length * 100001 →
    Ev (fun k => path_Shape.l0 k (toBA acc) (l.map toBA) (l.length : Int) (pre.length : Int)) (toBA (acc ++ shapeL post)) := by
  induction post with
  | nil =>
    intro pre acc h ha
    have hp : pre.length = l.length := by subst h; simp
    refine Ev.step' ?_
    simp only [path_Shape.l0, if_neg (show ¬ (pre.length : Int) < (l.length : Int) by omega), shapeL, List.flatMap_nil, List.append_nil]
    exact Ev.now _
  | cons x r ih =>
    intro pre acc h ha
    have hp : pre.length < l.length := by subst h; simp
    have hr : rdOf ByteArray.empty (l.map toBA) (pre.length : Int) = toBA x := by rw [h]; exact rdOf_mid _ _ _
    have hw : wrap64 ((pre.length : Int) + 1) = ((pre ++ [x]).length : Int) := by rw [w64 (by omega) (by omega)]; simp
    have hxl := hx x (by rw [h]; simp)
    have hsl := segL_len x hxl
    have s1 : (⟨#[47]⟩ : ByteArray) = toBA [47] := rfl
    have s2 : (⟨#[47, 58]⟩ : ByteArray) = toBA [47, 58] := rfl
    have s3 : (⟨#[47, 42]⟩ : ByteArray) = toBA [47, 42] := rfl
    have key := ih (pre ++ [x]) (acc ++ segL x) (by simp [h]) (by simp; omega)
    rw [show acc ++ segL x ++ shapeL r = acc ++ shapeL (x :: r) by simp [shapeL]] at key
    refine Ev.step' ?_
    simp only [path_Shape.l0, if_pos (show (pre.length : Int) < (l.length : Int) by omega), if_pos (show (0 : Int) ≤ (pre.length : Int) by omega), List.length_map, hr, hw, s1, s2, s3, toBA_append, toBA_size, List.length_append, List.length_singleton]
    refine Ev.bind (kind_f x) ?_
    unfold segL at key
    rcases kindL_cases x with h0 | h0 | h0
    · simp only [h0, if_true] at key ⊢
      simp only [if_pos (show 1 + x.length ≤ 9223372036854775807 by omega), if_pos (show acc.length + (1 + x.length) ≤ 9223372036854775807 by omega)]
      simpa using key
    · simp only [h0, if_true, if_neg (show ¬ (1 : Int) = 0 by omega)] at key ⊢
      simp only [if_pos (show acc.length + 2 ≤ 9223372036854775807 by omega)]
      simpa using key
    · simp only [h0, if_neg (show ¬ (2 : Int) = 0 by omega), if_neg (show ¬ (2 : Int) = 1 by omega)] at key ⊢
      simp only [if_pos (show acc.length + 2 ≤ 9223372036854775807 by omega)]
      simpa using key
theorem shape_f (l : List (List UInt8)) (hl : l.length ≤ 100001) (hx : ∀ x ∈ l, x.length ≤ 100000) : Ev (fun k => path_Shape.f k (l.map toBA)) (toBA (shapeL l)) := by
  have := shape_l0 l hl hx l [] [] rfl (by simp)
  simp only [path_Shape.f, List.length_map]
  exact this
end Go.Proofs.Ytnafapefbcmmbaa.M

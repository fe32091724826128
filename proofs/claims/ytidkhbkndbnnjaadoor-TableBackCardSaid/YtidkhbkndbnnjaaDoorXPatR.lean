/- path.Pattern: in plain lists. -/
import Derived.Test.YtidkhbkndbnnjaaDoorXPathM
import Derived.Test.YtidkhbkndbnnjaaDoorX7
set_option linter.unusedVariables false
set_option linter.unusedSimpArgs false
namespace Go.Proofs.YtidkhbkndbnnjaaDoor.M
open Go.RowKit Go.Proofs.YtidkhbkndbnnjaaDoorW.PrintWords Go.Proofs.YtidkhbkndbnnjaaDoor.X

def no37 (x : List UInt8) : Bool := decide ((wordsL 37 x).headD [] = x)
/-- May a pattern have these segments, the names behind? -/
def patGo : List (List UInt8) → List (List UInt8) → Bool
  | _, [] => true
  | names, x :: r =>
    if kindL x = 0 then (tokenL x && no37 x) && patGo names r
    else if kindL x = 2 ∧ r ≠ [] then false
    else (tokenL x.tail && !decide (x.tail ∈ names)) && patGo (x.tail :: names) r
theorem patGo_cons (names : List (List UInt8)) (x : List UInt8) (r : List (List UInt8)) : patGo names (x :: r) = if kindL x = 0 then (tokenL x && no37 x) && patGo names r
    else if kindL x = 2 ∧ r ≠ [] then false
    else (tokenL x.tail && !decide (x.tail ∈ names)) && patGo (x.tail :: names) r := by rw [patGo]
def patL (s : List UInt8) : SegsR :=
  if slash1 s = false then ([], false) else if s = [47] then ([], true) else
    if patGo [] (wordsL 47 s.tail) = true then (wordsL 47 s.tail, decide ((wordsL 47 s.tail).length ≤ 8)) else ([], false)
theorem patL_cons (c : UInt8) (t : List UInt8) (hc : c.toNat = 47) : patL (c :: t) = if (c :: t) = [47] then ([], true) else
    if patGo [] (wordsL 47 t) = true then (wordsL 47 t, decide ((wordsL 47 t).length ≤ 8)) else ([], false) := by
  rw [patL, if_neg (by simp [slash1, hc])]; rfl
theorem patL_no (c : UInt8) (t : List UInt8) (hc : c.toNat ≠ 47) : patL (c :: t) = ([], false) := by
  rw [patL, if_pos (by simp [slash1, hc])]
def namesM (names : List (List UInt8)) : List (ByteArray × Bool) := names.map fun s => (toBA s, true)
theorem mapGet_names (names : List (List UInt8)) (y : List UInt8) : mapGet false (namesM names) (toBA y) = decide (y ∈ names) := by
  induction names with
  | nil => simp [namesM, mapGet]
  | cons s r ih =>
    have e : namesM (s :: r) = (toBA s, true) :: namesM r := rfl
    rw [e, mapGet]
    by_cases h : s = y
    · subst h; simp
    · rw [if_neg (fun e => h (toBA_inj e)), ih]
      simp [show ¬ y = s from fun e => h e.symm]
theorem tail_ext (x : List UInt8) : (toBA x).extract 1 x.length = toBA x.tail := by
  rw [toBA_extract]
  cases x with
  | nil => rfl
  | cons c r => simp
theorem pat_l0 (l : List (List UInt8)) (hl : l.length ≤ 100001) (hx : ∀ x ∈ l, x.length ≤ 100000) (post : List (List UInt8)) : ∀ (pre names : List (List UInt8)), l = pre ++ post → names.length ≤ pre.length →
    Ev (fun k => path_Pattern.l0 k (l.map toBA) (namesM names) (l.map toBA) (l.length : Int) (pre.length : Int)) (if patGo names post = true then (l.map toBA, decide (l.length ≤ 8)) else ([], false)) := by
  induction post with
  | nil =>
    intro pre names h hn
    have hp : pre.length = l.length := by subst h; simp
    refine Ev.step' ?_
    simp only [path_Pattern.l0, if_neg (show ¬ (pre.length : Int) < (l.length : Int) by omega), patGo, if_true, List.length_map]
    have e : decide ((l.length : Int) ≤ 8) = decide (l.length ≤ 8) := by by_cases h8 : l.length ≤ 8 <;> simp [h8] <;> omega
    rw [e]
    exact Ev.now _
  | cons x r ih =>
    intro pre names h hn
    have hp : pre.length < l.length := by subst h; simp
    have hpl : l.length = pre.length + 1 + r.length := by subst h; simp; omega
    have hr : rdOf ByteArray.empty (l.map toBA) (pre.length : Int) = toBA x := by rw [h]; exact rdOf_mid _ _ _
    have hw : wrap64 ((pre.length : Int) + 1) = ((pre ++ [x]).length : Int) := by rw [w64 (by omega) (by omega)]; simp
    have hxl := hx x (by rw [h]; simp)
    have hnl : (namesM names).length = names.length := by simp [namesM]
    have htl : x.tail.length ≤ x.length := by simp
    refine Ev.step' ?_
    simp only [path_Pattern.l0, if_pos (show (pre.length : Int) < (l.length : Int) by omega), if_pos (show (0 : Int) ≤ (pre.length : Int) by omega), List.length_map, hr, hw, toBA_toList, toBA_size]
    refine Ev.bind (kind_f x) ?_
    have no : Ev (fun _ : Nat => some (([] : List ByteArray), false)) ([], false) := Ev.now _
    -- a name: ':' and '*'
    have name (hne : x ≠ []) (e : patGo names (x :: r) = ((tokenL x.tail && !decide (x.tail ∈ names)) && patGo (x.tail :: names) r)) :
        Ev (fun k => if (1 : Int) ≤ (x.length : Int) then ((ascii_Token.f k ((toBA x).extract 1 x.length)).bind fun t => if t = true then (if ((toBA x).extract 1 x.length).size ≤ 9223372036854775807 then (if mapGet false (namesM names) ((toBA x).extract 1 x.length) = true then some (([] : List ByteArray), false) else (if (namesM names).length < 9223372036854775807 then path_Pattern.l0 k (l.map toBA) (((toBA x).extract 1 x.length, true) :: namesM names) (l.map toBA) (l.length : Int) ((pre ++ [x]).length : Int) else none)) else none) else some (([] : List ByteArray), false)) else none)
          (if patGo names (x :: r) = true then (l.map toBA, decide (l.length ≤ 8)) else ([], false)) := by
      have h1 : 1 ≤ x.length := by cases x with | nil => exact absurd rfl hne | cons c q => simp
      simp only [if_pos (show (1 : Int) ≤ (x.length : Int) by omega), tail_ext, toBA_size, if_pos (show x.tail.length ≤ 9223372036854775807 by omega), hnl, if_pos (show names.length < 9223372036854775807 by omega), mapGet_names]
      refine Ev.bind (token_f x.tail (by omega)) ?_
      rw [e]
      cases ht : tokenL x.tail with
      | false => simpa using no
      | true =>
        by_cases hm : x.tail ∈ names
        · simpa [hm] using no
        · have key := ih (pre ++ [x]) (x.tail :: names) (by simp [h]) (by simp; omega)
          have e2 : namesM (x.tail :: names) = (toBA x.tail, true) :: namesM names := rfl
          rw [e2] at key
          simpa [hm] using key
    rcases kindL_cases x with h0 | h0 | h0
    · simp only [h0, if_true, patGo]
      refine Ev.bind (token_f x (by omega)) ?_
      cases ht : tokenL x with
      | false => simpa using no
      | true =>
        simp only [if_true]
        refine Ev.bind (words_f 37 x (by omega)) ?_
        have hne := wordsGo_ne 37 x []
        have key := ih (pre ++ [x]) names (by simp [h]) (by simp; omega)
        cases hwd : wordsL 37 x with
        | nil => exact absurd hwd hne
        | cons w ws =>
          have r0 : rdOf ByteArray.empty ((w :: ws).map toBA) 0 = toBA w := rfl
          simp only [List.length_map, List.length_cons, if_pos (show (0 : Int) < ((ws.length + 1 : Nat) : Int) by omega), r0, toBA_toList, no37, hwd, List.headD_cons]
          by_cases hwx : w = x
          · simpa [hwx] using key
          · simpa [hwx] using no
    · have hne : x ≠ [] := fun e => by rw [e] at h0; simp [kindL] at h0
      simp only [h0, if_neg (show ¬ (1 : Int) = 0 by omega), if_neg (show ¬ (1 : Int) = 2 by omega), if_true]
      exact name hne (by rw [patGo_cons names x r, if_neg (by rw [h0]; omega), if_neg (by rw [h0]; omega)])
    · have hne : x ≠ [] := fun e => by rw [e] at h0; simp [kindL] at h0
      simp only [h0, if_neg (show ¬ (2 : Int) = 0 by omega), if_true, w64 (x := (l.length : Int) - 1) (by omega) (by omega)]
      by_cases hlast : r = []
      · subst hlast
        simp only [List.length_nil] at hpl
        simp only [if_pos (show (pre.length : Int) = (l.length : Int) - 1 by omega)]
        exact name hne (by rw [patGo_cons names x [], if_neg (by rw [h0]; omega), if_neg (by simp)])
      · have : 0 < r.length := List.length_pos_iff.2 hlast
        simp only [if_neg (show ¬ (pre.length : Int) = (l.length : Int) - 1 by omega)]
        rw [patGo_cons names x r, if_neg (show ¬ kindL x = 0 by rw [h0]; omega), if_pos (show kindL x = 2 ∧ r ≠ [] from ⟨h0, hlast⟩)]
        simpa using no
theorem pat_f (s : List UInt8) (hs : s.length ≤ 100000) : Ev (fun k => path_Pattern.f k (toBA s)) (segsT (patL s)) := by
  have no : Ev (fun k => path_Pattern.j0 k (toBA s) true) (segsT ([], false)) := by
    refine Ev.step' ?_
    simp only [path_Pattern.j0, if_true]
    exact Ev.now _
  simp only [path_Pattern.f, toBA_toList, toBA_size]
  cases s with
  | nil =>
    simp only [if_true]
    exact no
  | cons c t =>
    have hb : bt (toBA (c :: t)) 0 = (c.toNat : Int) := bt_mid [] t c
    simp only [if_neg (show ¬ (c :: t) = ([] : List UInt8) by simp), if_pos (show (0 : Int) < ((c :: t).length : Int) by simp only [List.length_cons]; omega), hb]
    by_cases hc : c.toNat = 47
    · have e : (((c.toNat : Int)) != 47) = false := by rw [hc]; rfl
      rw [e, patL_cons c t hc]
      refine Ev.step' ?_
      simp only [path_Pattern.j0, Bool.false_eq_true, if_false, toBA_toList, toBA_size]
      by_cases h1 : (c :: t) = [47]
      · simp only [if_pos h1]
        exact Ev.now _
      · simp only [if_neg h1, if_pos (show (1 : Int) ≤ ((c :: t).length : Int) by simp only [List.length_cons]; omega), tail_cut]
        simp only [List.length_cons] at hs
        refine Ev.bind (words_f 47 t (by omega)) ?_
        simp only [List.length_map]
        have hc := wordsL_count_le 47 t
        have key := pat_l0 (wordsL 47 t) (by omega) (fun w hw => by have := wordsL_len_le 47 t w hw; omega) (wordsL 47 t) [] [] rfl (Nat.le_refl _)
        have e2 : segsT (if patGo [] (wordsL 47 t) = true then (wordsL 47 t, decide ((wordsL 47 t).length ≤ 8)) else ([], false)) = if patGo [] (wordsL 47 t) = true then ((wordsL 47 t).map toBA, decide ((wordsL 47 t).length ≤ 8)) else ([], false) := by split <;> rfl
        rw [e2]
        exact key
    · have e : (((c.toNat : Int)) != 47) = true := bne_iff_ne.2 (by omega)
      rw [e, patL_no c t hc]
      exact no

end Go.Proofs.YtidkhbkndbnnjaaDoor.M

/- The anchor of chapter 07's statements, their bound, and texts that are parsed: plain lists. -/
import Derived.Test.YtidkhbkndbnnjaaDoorXRouteM
import Derived.Test.YtidkhbkndbnnjaaDoorX13
set_option linter.unusedVariables false
set_option linter.unusedSimpArgs false
namespace Go.Proofs.YtidkhbkndbnnjaaDoor.M
open Go.RowKit Go.Proofs.YtidkhbkndbnnjaaDoorW.PrintWords Go.Proofs.YtidkhbkndbnnjaaDoor.X

def fitTextL : List UInt8 := [71, 69, 84, 32, 47, 58, 97, 32, 103, 101, 116, 10, 71, 69, 84, 32, 47, 58, 98, 32, 103, 101, 116]
def firstTextL : List UInt8 := [71, 69, 84, 32, 47, 104, 101, 97, 108, 116, 104, 32, 104, 101, 97, 108, 116, 104, 10, 80, 79, 83, 84, 32, 47, 97, 100, 109, 105, 110, 47, 114, 111, 117, 116, 101, 115, 32, 114, 101, 108, 111, 97, 100, 10, 80, 79, 83, 84, 32, 47, 97, 100, 109, 105, 110, 47, 115, 116, 111, 112, 32, 115, 104, 117, 116, 100, 111, 119, 110, 10, 71, 69, 84, 32, 47, 107, 118, 47, 58, 107, 101, 121, 32, 103, 101, 116, 10, 80, 85, 84, 32, 47, 107, 118, 47, 58, 107, 101, 121, 32, 112, 117, 116, 10, 68, 69, 76, 69, 84, 69, 32, 47, 107, 118, 47, 58, 107, 101, 121, 32, 100, 101, 108, 101, 116, 101, 10, 71, 69, 84, 32, 47, 108, 105, 115, 116, 47, 42, 112, 114, 101, 102, 105, 120, 32, 108, 105, 115, 116, 10, 71, 69, 84, 32, 47, 119, 97, 108, 107, 47, 58, 109, 111, 118, 101, 115, 32, 119, 97, 108, 107, 10]
theorem fit_parse : (parseL fitTextL).2 = 3 := by decide +kernel
theorem first_parse : (parseL firstTextL).1.length = 8 := by decide +kernel
theorem fit_f : Ev (fun k => crossroadlaw07_fit.f k) true := by
  simp only [crossroadlaw07_fit.f, table_First.f]
  refine Ev.bind (parse_f fitTextL (by decide +kernel)) ?_
  simp only [parT, fit_parse, if_true]
  refine Ev.bind (a := (parseL firstTextL).1.map rT) ?_ ?_
  · refine Ev.bind (parse_f firstTextL (by decide +kernel)) ?_
    exact Ev.now _
  · simp only [List.length_map, first_parse]
    refine Ev.bind (token_f [97] (by decide)) ?_
    have e : tokenL [97] = true := by decide
    simp only [e, if_true]
    refine Ev.bind (kind_f [58, 97]) ?_
    exact Ev.const (by decide)

/-! ### light -/
def sumW : Int → List R3 → Int
  | x, [] => x
  | x, r :: q => sumW (wrap64 (x + wrap64 (wrap64 ((r.m.length : Int) + (r.p.length : Int)) + (r.h.length : Int)))) q
def lightL (l : List R3) : Bool := if sumW 0 l ≤ 4000 then decide (l.length ≤ 60) else false
theorem light_l0 (l : List R3) (hl : l.length ≤ 4611686018427387904) (post : List R3) : ∀ (pre : List R3) (x : Int), l = pre ++ post →
    Ev (fun k => crossroadlaw07_light.l0 k (l.map rT) x (l.map rT) (l.length : Int) (pre.length : Int)) (if sumW x post ≤ 4000 then decide (l.length ≤ 60) else false) := by
  induction post with
  | nil =>
    intro pre x h
    have hp : pre.length = l.length := by subst h; simp
    have e : decide ((l.length : Int) ≤ 60) = decide (l.length ≤ 60) := by by_cases h8 : l.length ≤ 60 <;> simp [h8] <;> omega
    show Ev _ (if x ≤ 4000 then decide (l.length ≤ 60) else false)
    refine Ev.step' ?_
    simp only [crossroadlaw07_light.l0, if_neg (show ¬ (pre.length : Int) < (l.length : Int) by omega), List.length_map, e]
    by_cases hx : x ≤ 4000
    · simp only [if_pos hx]; exact Ev.now _
    · simp only [if_neg hx]; exact Ev.now _
  | cons r q ih =>
    intro pre x h
    have hp : pre.length < l.length := by subst h; simp
    have hr : rd_T27 (l.map rT) (pre.length : Int) = rT r := by rw [h]; exact rd_mid _ _ _
    have hw : wrap64 ((pre.length : Int) + 1) = ((pre ++ [r]).length : Int) := by rw [w64 (by omega) (by omega)]; simp
    refine Ev.step' ?_
    simp only [crossroadlaw07_light.l0, if_pos (show (pre.length : Int) < (l.length : Int) by omega), if_pos (show (0 : Int) ≤ (pre.length : Int) by omega), List.length_map, hr, rT, toBA_size, hw, sumW]
    exact ih (pre ++ [r]) _ (by simp [h])
theorem light_f (l : List R3) (hl : l.length ≤ 4611686018427387904) : Ev (fun k => crossroadlaw07_light.f k (l.map rT)) (lightL l) := by
  have := light_l0 l hl l [] 0 rfl
  simp only [crossroadlaw07_light.f, List.length_map]
  exact this
def Fits (r : R3) : Prop := r.m.length ≤ 140737488351232 ∧ r.p.length ≤ 140737488351232 ∧ r.h.length ≤ 140737488351232
theorem sumW_big (l : List R3) (hs : ∀ r ∈ l, Fits r) : ∀ x : Int, 0 ≤ x → x + (l.length : Int) * 422212465053696 ≤ 4611686018427387904 → x ≤ sumW x l ∧ ∀ r ∈ l, (r.m.length : Int) + r.p.length + r.h.length ≤ sumW x l := by
  induction l with
  | nil => intro x h0 h1; exact ⟨Int.le_refl _, by simp⟩
  | cons r q ih =>
    intro x h0 h1
    have hr := hs r (by simp)
    unfold Fits at hr
    simp only [List.length_cons] at h1
    have hm : 0 ≤ (q.length : Int) * 422212465053696 := by omega
    have e1 : wrap64 ((r.m.length : Int) + (r.p.length : Int)) = (r.m.length : Int) + (r.p.length : Int) := w64 (by omega) (by omega)
    have e2 : wrap64 ((r.m.length : Int) + (r.p.length : Int) + (r.h.length : Int)) = (r.m.length : Int) + (r.p.length : Int) + (r.h.length : Int) := w64 (by omega) (by omega)
    have e3 : wrap64 (x + ((r.m.length : Int) + (r.p.length : Int) + (r.h.length : Int))) = x + ((r.m.length : Int) + (r.p.length : Int) + (r.h.length : Int)) := w64 (by omega) (by omega)
    have e : sumW x (r :: q) = sumW (x + ((r.m.length : Int) + (r.p.length : Int) + (r.h.length : Int))) q := by rw [sumW, e1, e2, e3]
    obtain ⟨i1, i2⟩ := ih (fun z hz => hs z (by simp [hz])) (x + ((r.m.length : Int) + (r.p.length : Int) + (r.h.length : Int))) (by omega) (by omega)
    rw [e]
    refine ⟨by omega, fun z hz => ?_⟩
    rcases List.mem_cons.1 hz with rfl | hz
    · omega
    · exact i2 z hz
theorem light_small (l : List R3) (hs : ∀ r ∈ l, Fits r) (h : lightL l = true) : l.length ≤ 60 ∧ ∀ r ∈ l, r.m.length + r.p.length + r.h.length ≤ 4000 := by
  unfold lightL at h
  split at h
  · rename_i h1
    have h60 : l.length ≤ 60 := of_decide_eq_true h
    obtain ⟨_, i2⟩ := sumW_big l hs 0 (by omega) (by omega)
    exact ⟨h60, fun r hr => by have := i2 r hr; omega⟩
  · cases h
theorem small_of (r : R3) (h : r.m.length + r.p.length + r.h.length ≤ 4000) : Small r := ⟨by omega, by omega, by omega⟩

/-! ### lines and their fields -/
theorem fields_blank (l : List UInt8) : fieldsL (32 :: l) = fieldsL l := by
  unfold fieldsL wordsL
  simp [wordsGo]
theorem fields_nil : fieldsL [] = [] := rfl
theorem fields_word (w l : List UInt8) (hw : w ≠ []) (h : ∀ c ∈ w, c.toNat ≠ 32) : fieldsL (w ++ 32 :: l) = w :: fieldsL l := by
  unfold fieldsL wordsL
  have := wordsGo_app 32 w l [] (fun c hc => by have := h c hc; show (c.toNat : Int) ≠ 32; omega)
  rw [show ((32 : UInt8).toNat : Int) = 32 from rfl] at this
  rw [this, List.nil_append]
  have hn : (!w.isEmpty) = true := by cases w with | nil => exact absurd rfl hw | cons _ _ => rfl
  simp [hn]
theorem fields_last (w : List UInt8) (hw : w ≠ []) (h : ∀ c ∈ w, c.toNat ≠ 32) : fieldsL w = [w] := by
  unfold fieldsL wordsL
  rw [wordsGo_nosep 32 w [] (fun c hc => by have := h c hc; omega), List.nil_append]
  have hn : (!w.isEmpty) = true := by cases w with | nil => exact absurd rfl hw | cons _ _ => rfl
  simp [hn]
theorem words_line (l r : List UInt8) (h : ∀ c ∈ l, c.toNat ≠ 10) : wordsL 10 (l ++ 10 :: r) = l :: wordsL 10 r := by
  have := wordsGo_app 10 l r [] (fun c hc => by have := h c hc; show (c.toNat : Int) ≠ 10; omega)
  rw [show ((10 : UInt8).toNat : Int) = 10 from rfl] at this
  rw [wordsL, this, List.nil_append]; rfl

/-! ### routes that may be -/
def cleanB (c : UInt8) : Bool := decide (c.toNat ≠ 32 ∧ c.toNat ≠ 10)
def cleanL (w : List UInt8) : Bool := w.all cleanB && !w.isEmpty
theorem clean_ne {w : List UInt8} (h : cleanL w = true) : w ≠ [] ∧ (∀ c ∈ w, c.toNat ≠ 32) ∧ ∀ c ∈ w, c.toNat ≠ 10 := by
  unfold cleanL at h
  simp only [Bool.and_eq_true, List.all_eq_true] at h
  refine ⟨fun e => by rw [e] at h; simp at h, fun c hc => ?_, fun c hc => ?_⟩
  · have := h.1 c hc; unfold cleanB at this; simp at this; exact this.1
  · have := h.1 c hc; unfold cleanB at this; simp at this; exact this.2
theorem mark_fin_clean : ∀ n : Fin 256, markN n.val = true → decide (n.val ≠ 32 ∧ n.val ≠ 10) = true := by decide +kernel
theorem mark_clean (c : UInt8) (h : markB c = true) : cleanB c = true := mark_fin_clean ⟨c.toNat, c.toNat_lt⟩ h
theorem token_clean {w : List UInt8} (h : tokenL w = true) : cleanL w = true := by
  unfold tokenL at h
  simp only [Bool.and_eq_true, List.all_eq_true] at h
  unfold cleanL
  simp only [Bool.and_eq_true, List.all_eq_true]
  exact ⟨fun c hc => mark_clean c (h.1 c hc), h.2⟩
theorem hand_clean {w : List UInt8} (h : handL w = true) : cleanL w = true := by
  unfold handL at h
  obtain ⟨x, hx, e⟩ := List.any_eq_true.1 h
  have e' : x = w := by simpa using e
  subst e'
  exact List.all_eq_true.1 (by decide +kernel : hlists.all cleanL = true) x hx
theorem kind_clean {x : List UInt8} (hk : kindL x = 1 ∨ kindL x = 2) (ht : tokenL x.tail = true) : x.all cleanB = true := by
  cases x with
  | nil => simp [kindL] at hk
  | cons c t =>
    have hc : c.toNat = 58 ∨ c.toNat = 42 := by
      unfold kindL at hk
      by_cases h1 : c.toNat = 58
      · exact .inl h1
      · by_cases h2 : c.toNat = 42
        · exact .inr h2
        · simp [h1, h2] at hk
    have h1 := token_clean ht
    unfold cleanL at h1
    simp only [List.tail_cons, Bool.and_eq_true] at h1
    rw [List.all_cons, h1.1, Bool.and_true]
    unfold cleanB
    rcases hc with hc | hc <;> simp [hc]
theorem patGo_clean (l : List (List UInt8)) : ∀ names, patGo names l = true → ∀ x ∈ l, x.all cleanB = true := by
  induction l with
  | nil => intro _ _ x hx; simp at hx
  | cons y r ih =>
    intro names h x hx
    rw [patGo_cons] at h
    rcases List.mem_cons.1 hx with rfl | hx
    · rcases kindL_cases x with h0 | h0 | h0
      · rw [if_pos h0] at h
        simp only [Bool.and_eq_true] at h
        have := token_clean h.1.1
        unfold cleanL at this
        simp only [Bool.and_eq_true] at this
        exact this.1
      · rw [if_neg (by rw [h0]; omega), if_neg (by rw [h0]; omega)] at h
        simp only [Bool.and_eq_true] at h
        exact kind_clean (.inl h0) h.1.1
      · rw [if_neg (by rw [h0]; omega)] at h
        split at h
        · cases h
        · simp only [Bool.and_eq_true] at h
          exact kind_clean (.inr h0) h.1.1
    · split at h
      · simp only [Bool.and_eq_true] at h; exact ih _ h.2 x hx
      · split at h
        · cases h
        · simp only [Bool.and_eq_true] at h; exact ih _ h.2 x hx
theorem join_clean (l : List (List UInt8)) (h : ∀ x ∈ l, x.all cleanB = true) : (joinL [47] l).all cleanB = true := by
  induction l with
  | nil => rfl
  | cons x r ih =>
    cases r with
    | nil => exact h x (by simp)
    | cons y r =>
      rw [joinL_cons _ _ _ (by simp)]
      rw [List.all_append, List.all_append, h x (by simp), ih (fun z hz => h z (by simp [hz]))]
      rfl
theorem pat_clean {p : List UInt8} (h : (patL p).2 = true) : cleanL p = true := by
  cases p with
  | nil => simp [patL, slash1] at h
  | cons c t =>
    by_cases hc : c.toNat = 47
    · have hcc : cleanB c = true := by unfold cleanB; simp [hc]
      rw [patL_cons c t hc] at h
      by_cases h1 : (c :: t) = [47]
      · rw [h1]; decide
      · rw [if_neg h1] at h
        by_cases hg : patGo [] (wordsL 47 t) = true
        · have hw := join_clean _ (patGo_clean _ _ hg)
          have hj := join_words 47 t []
          rw [show ((47 : UInt8).toNat : Int) = 47 from rfl] at hj
          rw [show wordsL 47 t = wordsGo 47 [] t from rfl, hj, List.nil_append] at hw
          unfold cleanL
          rw [List.all_cons, hcc, hw]; rfl
        · rw [if_neg hg] at h; simp at h
    · rw [patL_no c t hc] at h; simp at h
theorem right_clean {r : R3} (h : rightL r = true) : cleanL r.m = true ∧ cleanL r.p = true ∧ cleanL r.h = true := by
  unfold rightL at h
  simp only [Bool.and_eq_true] at h
  exact ⟨token_clean h.2.1, pat_clean h.1, hand_clean h.2.2⟩
theorem check_zero {l : List R3} (h : checkL l = 0) : (∀ r ∈ l, rightL r = true) ∧ l.length ≤ 24 := by
  unfold checkL at h
  split at h
  · rename_i ha
    split at h
    · cases h
    · exact ⟨List.all_eq_true.1 ha, by omega⟩
  · cases h
/-- The routes of lines, nothing checked. -/
def rowsGo : List (List UInt8) → Option (List R3)
  | [] => some []
  | l :: r => match fieldsL l with
    | [] => rowsGo r
    | [a, b, c] => (rowsGo r).map fun q => R3.mk a b c :: q
    | _ => none
theorem parse_rows (ls : List (List UInt8)) : ∀ acc : List R3, parseGo acc ls = match rowsGo ls with
    | some rs => if checkL (acc ++ rs) = 0 then (acc ++ rs, 0) else ([], checkL (acc ++ rs))
    | none => ([], 1) := by
  induction ls with
  | nil => intro acc; simp [parseGo, rowsGo]
  | cons l r ih =>
    intro acc
    rw [parseGo, rowsGo]
    generalize fieldsL l = f
    match f with
    | [] => exact ih acc
    | [a] => rfl
    | [a, b] => rfl
    | [a, b, c] =>
      simp only
      rw [ih (acc ++ [R3.mk a b c])]
      cases rowsGo r with
      | none => rfl
      | some rs => simp only [Option.map_some, List.append_assoc, List.singleton_append]
    | a :: b :: c :: d :: q => rfl
theorem rows_skip (l : List UInt8) (r : List (List UInt8)) (h : fieldsL l = []) : rowsGo (l :: r) = rowsGo r := by rw [rowsGo, h]
theorem rows_one (l : List UInt8) (r : List (List UInt8)) (x : R3) (h : fieldsL l = [x.m, x.p, x.h]) : rowsGo (l :: r) = (rowsGo r).map fun q => x :: q := by rw [rowsGo, h]
theorem fields_three (x : R3) (h : cleanL x.m = true ∧ cleanL x.p = true ∧ cleanL x.h = true) : fieldsL (x.m ++ 32 :: (x.p ++ 32 :: x.h)) = [x.m, x.p, x.h] := by
  obtain ⟨h1, h2, h3⟩ := h
  rw [fields_word _ _ (clean_ne h1).1 (clean_ne h1).2.1, fields_word _ _ (clean_ne h2).1 (clean_ne h2).2.1, fields_last _ (clean_ne h3).1 (clean_ne h3).2.1]
theorem print_rows (l : List R3) (h : ∀ r ∈ l, cleanL r.m = true ∧ cleanL r.p = true ∧ cleanL r.h = true) : rowsGo (wordsL 10 (printL l)) = some l := by
  induction l with
  | nil => rfl
  | cons x q ih =>
    have hx := h x (by simp)
    have e : printL (x :: q) = (x.m ++ 32 :: (x.p ++ 32 :: x.h)) ++ 10 :: printL q := by simp [printL, lineL]
    rw [e, words_line _ _ (fun c hc => by
      simp only [List.mem_append, List.mem_cons] at hc
      rcases hc with hc | rfl | hc | rfl | hc
      · exact (clean_ne hx.1).2.2 c hc
      · decide
      · exact (clean_ne hx.2.1).2.2 c hc
      · decide
      · exact (clean_ne hx.2.2).2.2 c hc), rows_one _ _ x (fields_three x hx), ih (fun r hr => h r (by simp [hr]))]
    rfl
theorem parse_print (l : List R3) (h : checkL l = 0) : parseL (printL l) = (l, 0) := by
  have hr := (check_zero h).1
  rw [parseL, parse_rows, print_rows l (fun r hr' => right_clean (hr r hr'))]
  simp [h]
theorem parse_result (s : List UInt8) : (parseL s).2 = 0 ∧ checkL (parseL s).1 = 0 ∨ (parseL s).1 = [] ∧ ((parseL s).2 = 1 ∨ (parseL s).2 = 2 ∨ (parseL s).2 = 3) := by
  rw [parseL, parse_rows]
  have hcl : ∀ (l : List R3) (seen : List (List UInt8 × List UInt8)), clashGo seen l = 0 ∨ clashGo seen l = 3 := by
    intro l
    induction l with
    | nil => intro seen; exact .inl rfl
    | cons r q ih =>
      intro seen
      rw [clashGo]
      split
      · exact .inr rfl
      · exact ih _
  have hc : ∀ l : List R3, checkL l = 0 ∨ checkL l = 1 ∨ checkL l = 2 ∨ checkL l = 3 := by
    intro l
    unfold checkL
    split
    · split
      · exact .inr (.inr (.inl rfl))
      · rcases hcl l [] with h | h
        · exact .inl h
        · exact .inr (.inr (.inr h))
    · exact .inr (.inl rfl)
  cases rowsGo (wordsL 10 s) with
  | none => exact .inr ⟨rfl, .inl rfl⟩
  | some rs =>
    simp only [List.nil_append]
    by_cases h0 : checkL rs = 0
    · rw [if_pos h0]; exact .inl ⟨rfl, h0⟩
    · rw [if_neg h0]
      refine .inr ⟨rfl, ?_⟩
      rcases hc rs with h | h | h | h
      · exact absurd h h0
      · exact .inl h
      · exact .inr (.inl h)
      · exact .inr (.inr h)
theorem parse_small (s : List UInt8) (hs : s.length ≤ 90000) : ∀ r ∈ (parseL s).1, Small r := by
  have key : ∀ (ls : List (List UInt8)), (∀ l ∈ ls, l.length ≤ 90000) → ∀ rs, rowsGo ls = some rs → ∀ r ∈ rs, Small r := by
    intro ls
    induction ls with
    | nil => intro _ rs h r hr; simp [rowsGo] at h; subst h; simp at hr
    | cons l q ih =>
      intro hl rs h r hr
      have hf := fields_le l
      have h1 := hl l (by simp)
      rw [rowsGo] at h
      generalize fieldsL l = f at h hf
      match f, h, hf with
      | [], h, hf => exact ih (fun z hz => hl z (by simp [hz])) rs h r hr
      | [a], h, hf => simp at h
      | [a, b], h, hf => simp at h
      | [a, b, c], h, hf =>
        obtain ⟨q', hq, rfl⟩ := Option.map_eq_some_iff.1 h
        rcases List.mem_cons.1 hr with rfl | hr
        · have ha := hf a (by simp)
          have hb := hf b (by simp)
          have hc := hf c (by simp)
          exact ⟨by show a.length ≤ _; omega, by show b.length ≤ _; omega, by show c.length ≤ _; omega⟩
        · exact ih (fun z hz => hl z (by simp [hz])) q' hq r hr
      | a :: b :: c :: d :: q', h, hf => simp at h
  intro r hr
  rw [parseL, parse_rows] at hr
  cases hg : rowsGo (wordsL 10 s) with
  | none => rw [hg] at hr; simp at hr
  | some rs =>
    rw [hg] at hr
    simp only [List.nil_append] at hr
    split at hr
    · exact key _ (fun l hl => by have := wordsL_len_le 10 s l hl; omega) rs hg r hr
    · simp at hr
end Go.Proofs.YtidkhbkndbnnjaaDoor.M

/- TableBack: routes come back from their text, with whatever blanks and empty lines between. -/
import Derived.Test.YtidkhbkndbnnjaaDoorXRouteF
import Derived.Test.YtidkhbkndbnnjaaDoorXBits
import Derived.Test.YtidkhbkndbnnjaaDoorX21
set_option linter.unusedVariables false
set_option linter.unusedSimpArgs false
namespace Go.Proofs.YtidkhbkndbnnjaaDoor.Pure
open Go.RowKit Go.Proofs.YtidkhbkndbnnjaaDoor.X Go.Proofs.YtidkhbkndbnnjaaDoorW.PrintWords Go.Proofs.YtidkhbkndbnnjaaDoorW.PrintLast Go.Proofs.YtidkhbkndbnnjaaDoor.M

theorem sumW_eq (l : List R3) (hs : ∀ r ∈ l, Fits r) : ∀ x : Int, 0 ≤ x → x + (l.length : Int) * 422212465053696 ≤ 4611686018427387904 → sumW x l = x + (((l.map fun r => r.m.length + r.p.length + r.h.length).sum : Nat) : Int) := by
  induction l with
  | nil => intro x h0 h1; simp [sumW]
  | cons r q ih =>
    intro x h0 h1
    have hr := hs r (by simp)
    unfold Fits at hr
    simp only [List.length_cons] at h1
    have hm : 0 ≤ (q.length : Int) * 422212465053696 := by omega
    have e1 : wrap64 ((r.m.length : Int) + (r.p.length : Int)) = (r.m.length : Int) + (r.p.length : Int) := w64 (by omega) (by omega)
    have e2 : wrap64 ((r.m.length : Int) + (r.p.length : Int) + (r.h.length : Int)) = (r.m.length : Int) + (r.p.length : Int) + (r.h.length : Int) := w64 (by omega) (by omega)
    have e3 : wrap64 (x + ((r.m.length : Int) + (r.p.length : Int) + (r.h.length : Int))) = x + ((r.m.length : Int) + (r.p.length : Int) + (r.h.length : Int)) := w64 (by omega) (by omega)
    rw [sumW, e1, e2, e3, ih (fun z hz => hs z (by simp [hz])) _ (by omega) (by omega)]
    simp only [List.map_cons, List.sum_cons]
    omega
theorem light_sum (l : List R3) (hs : ∀ r ∈ l, Fits r) (h : lightL l = true) : (l.map fun r => r.m.length + r.p.length + r.h.length).sum ≤ 4000 := by
  have h60 := (light_small l hs h).1
  unfold lightL at h
  split at h
  · rename_i h1
    have := sumW_eq l hs 0 (by omega) (by omega)
    omega
  · cases h

/-! ### the text with blanks -/
def bl (v : Int) : List UInt8 := List.replicate (v % 2).toNat 32
theorem bl_cases (v : Int) : bl v = [] ∨ bl v = [32] := by
  unfold bl
  rcases (by omega : v % 2 = 0 ∨ v % 2 = 1) with h | h
  · rw [h]; exact .inl rfl
  · rw [h]; exact .inr rfl
theorem bl_ex (v : Int) : (⟨#[32, 32]⟩ : ByteArray).extract 0 (v % 2).toNat = toBA (bl v) := by
  unfold bl
  rcases (by omega : v % 2 = 0 ∨ v % 2 = 1) with h | h <;> rw [h] <;> decide +kernel
theorem bl_ex3 (v : Int) : (⟨#[32, 32, 32]⟩ : ByteArray).extract 0 (1 + v % 2).toNat = toBA (32 :: bl v) := by
  unfold bl
  rcases (by omega : v % 2 = 0 ∨ v % 2 = 1) with h | h <;> rw [h] <;> decide +kernel
theorem bl_len (v : Int) : (bl v).length ≤ 1 := by rcases bl_cases v with h | h <;> simp [h]
def lineT (n i : Int) (r : R3) : List UInt8 := bl n ++ r.m ++ (32 :: bl i) ++ r.p ++ [32] ++ r.h ++ bl (n / 2)
def txt (n : Int) : Nat → List R3 → List UInt8
  | _, [] => []
  | i, r :: q => lineT n (i : Int) r ++ [10, 10] ++ txt n (i + 1) q
theorem txt_len (n : Int) (l : List R3) : ∀ i : Nat, (txt n i l).length ≤ (l.map fun r => r.m.length + r.p.length + r.h.length).sum + l.length * 7 := by
  induction l with
  | nil => intro i; simp [txt]
  | cons r q ih =>
    intro i
    have h1 := ih (i + 1)
    have h2 := bl_len n
    have h3 := bl_len (i : Int)
    have h4 := bl_len (n / 2)
    simp only [txt, lineT, List.length_append, List.length_cons, List.length_nil, List.map_cons, List.sum_cons]
    omega
theorem line_fields (n i : Int) (r : R3) (h : cleanL r.m = true ∧ cleanL r.p = true ∧ cleanL r.h = true) : fieldsL (lineT n i r) = [r.m, r.p, r.h] := by
  obtain ⟨h1, h2, h3⟩ := h
  have hb : ∀ (v : Int) (l : List UInt8), fieldsL (bl v ++ l) = fieldsL l := fun v l => by
    rcases bl_cases v with e | e <;> rw [e]
    · rfl
    · exact fields_blank l
  have hl : fieldsL (r.h ++ bl (n / 2)) = [r.h] := by
    rcases bl_cases (n / 2) with e | e <;> rw [e]
    · rw [List.append_nil]; exact fields_last _ (clean_ne h3).1 (clean_ne h3).2.1
    · rw [fields_word _ _ (clean_ne h3).1 (clean_ne h3).2.1]; rfl
  have e : lineT n i r = bl n ++ (r.m ++ 32 :: (bl i ++ (r.p ++ 32 :: (r.h ++ bl (n / 2))))) := by simp [lineT]
  rw [e, hb, fields_word _ _ (clean_ne h1).1 (clean_ne h1).2.1, hb, fields_word _ _ (clean_ne h2).1 (clean_ne h2).2.1, hl]
theorem line_no10 (n i : Int) (r : R3) (h : cleanL r.m = true ∧ cleanL r.p = true ∧ cleanL r.h = true) : ∀ c ∈ lineT n i r, c.toNat ≠ 10 := by
  obtain ⟨h1, h2, h3⟩ := h
  have hb : ∀ v : Int, ∀ c ∈ bl v, c.toNat ≠ 10 := fun v c hc => by
    rcases bl_cases v with e | e <;> rw [e] at hc
    · simp at hc
    · rw [List.mem_singleton.1 hc]; decide
  intro c hc
  simp only [lineT, List.mem_append, List.mem_cons, List.not_mem_nil, or_false] at hc
  rcases hc with (((((hc | hc) | hc | hc) | hc) | hc) | hc) | hc
  · exact hb _ c hc
  · exact (clean_ne h1).2.2 c hc
  · rw [hc]; decide
  · exact hb _ c hc
  · exact (clean_ne h2).2.2 c hc
  · rw [hc]; decide
  · exact (clean_ne h3).2.2 c hc
  · exact hb _ c hc
theorem txt_rows (n : Int) (l : List R3) (h : ∀ r ∈ l, cleanL r.m = true ∧ cleanL r.p = true ∧ cleanL r.h = true) : ∀ i : Nat, rowsGo (wordsL 10 (txt n i l)) = some l := by
  induction l with
  | nil => intro i; rfl
  | cons r q ih =>
    intro i
    have hr := h r (by simp)
    have e : txt n i (r :: q) = lineT n (i : Int) r ++ 10 :: ([] ++ 10 :: txt n (i + 1) q) := by simp [txt]
    rw [e, words_line _ _ (line_no10 n i r hr), words_line _ _ (by simp), rows_one _ _ r (line_fields n i r hr), rows_skip _ _ fields_nil, ih (fun z hz => h z (by simp [hz]))]
    rfl
theorem txt_parse (n : Int) (l : List R3) (h : checkL l = 0) : parseL ([10, 32, 32, 10] ++ txt n 0 l) = (l, 0) := by
  have hr := (check_zero h).1
  have e : ([10, 32, 32, 10] : List UInt8) ++ txt n 0 l = [] ++ 10 :: ([32, 32] ++ 10 :: txt n 0 l) := rfl
  rw [parseL, parse_rows, e, words_line _ _ (by simp), words_line _ _ (by decide), rows_skip _ _ fields_nil, rows_skip _ _ rfl, txt_rows n l (fun r hr' => right_clean (hr r hr'))]
  simp [h]

theorem back_l0 (n : Int) (l : List R3) (hl : l.length ≤ 24) (post : List R3) : ∀ (pre : List R3) (s : List UInt8), l = pre ++ post → (s ++ txt n pre.length post).length ≤ 80000 → parseL (s ++ txt n pre.length post) = (l, 0) →
    Ev (fun k => crossroadlaw07_TableBack.l0 k (l.map rT) n (l.map rT) 0 (toBA s) (l.map rT) (l.length : Int) (pre.length : Int)) true := by
  induction post with
  | nil =>
    intro pre s h hz hp
    have hpl : pre.length = l.length := by subst h; simp
    rw [txt, List.append_nil] at hz hp
    refine Ev.step' ?_
    simp only [crossroadlaw07_TableBack.l0, if_neg (show ¬ (pre.length : Int) < (l.length : Int) by omega)]
    refine Ev.bind (parse_f s (by omega)) ?_
    simp only [hp, parT, if_true]
    refine Ev.bind (same_f l l (by omega)) ?_
    simp only [decide_true, if_true]
    refine Ev.bind (same_f l l (by omega)) ?_
    exact Ev.const (by simp)
  | cons r q ih =>
    intro pre s h hz hp
    have hpl : pre.length < l.length := by subst h; simp
    have hr : rd_T27 (l.map rT) (pre.length : Int) = rT r := by rw [h]; exact rd_mid _ _ _
    have hw : wrap64 ((pre.length : Int) + 1) = ((pre ++ [r]).length : Int) := by rw [w64 (by omega) (by omega)]; simp
    have hw1 : wrap64 (1 + (pre.length : Int) % 2) = 1 + (pre.length : Int) % 2 := w64 (by omega) (by omega)
    have b1 := bl_len n
    have b2 := bl_len (pre.length : Int)
    have b3 := bl_len (n / 2)
    have hz' := hz
    simp only [txt, lineT, List.length_append, List.length_cons, List.length_nil] at hz'
    have c1 : (⟨#[32]⟩ : ByteArray) = toBA [32] := rfl
    have c2 : (⟨#[10, 10]⟩ : ByteArray) = toBA [10, 10] := rfl
    have n1 : (0 : Int) ≤ n % 2 ∧ n % 2 ≤ 2 := by omega
    have n2 : (0 : Int) ≤ 1 + (pre.length : Int) % 2 ∧ 1 + (pre.length : Int) % 2 ≤ 3 := by omega
    have n3 : (0 : Int) ≤ n / 2 % 2 ∧ n / 2 % 2 ≤ 2 := by omega
    refine Ev.step' ?_
    simp only [crossroadlaw07_TableBack.l0, if_pos (show (pre.length : Int) < (l.length : Int) by omega), if_pos (show (0 : Int) ≤ (pre.length : Int) by omega), List.length_map, hr, rT, hw, i64_and1, hw1, if_pos n1.1, if_pos n1.2, if_pos n2.1, if_pos n2.2, if_pos n3.1, if_pos n3.2, bl_ex, bl_ex3, c1, c2, toBA_append, toBA_size, List.length_append, List.length_cons, List.length_nil]
    simp only [if_pos (show (bl n).length + r.m.length ≤ 9223372036854775807 by omega), if_pos (show (bl n).length + r.m.length + ((bl (pre.length : Int)).length + 1) ≤ 9223372036854775807 by omega), if_pos (show (bl n).length + r.m.length + ((bl (pre.length : Int)).length + 1) + r.p.length ≤ 9223372036854775807 by omega), if_pos (show (bl n).length + r.m.length + ((bl (pre.length : Int)).length + 1) + r.p.length + 1 ≤ 9223372036854775807 by omega), if_pos (show (bl n).length + r.m.length + ((bl (pre.length : Int)).length + 1) + r.p.length + (0 + 1) + r.h.length ≤ 9223372036854775807 by omega), if_pos (show (bl n).length + r.m.length + ((bl (pre.length : Int)).length + 1) + r.p.length + (0 + 1) + r.h.length + (bl (n / 2)).length ≤ 9223372036854775807 by omega), if_pos (show (bl n).length + r.m.length + ((bl (pre.length : Int)).length + 1) + r.p.length + (0 + 1) + r.h.length + (bl (n / 2)).length + 2 ≤ 9223372036854775807 by omega), if_pos (show s.length + ((bl n).length + r.m.length + ((bl (pre.length : Int)).length + 1) + r.p.length + (0 + 1) + r.h.length + (bl (n / 2)).length + (0 + 1 + 1)) ≤ 9223372036854775807 by omega)]
    have e : s ++ txt n pre.length (r :: q) = (s ++ (bl n ++ r.m ++ (32 :: bl (pre.length : Int)) ++ r.p ++ [32] ++ r.h ++ bl (n / 2) ++ [10, 10])) ++ txt n (pre ++ [r]).length q := by simp [txt, lineT]
    rw [e] at hz hp
    have := ih (pre ++ [r]) _ (by simp [h]) hz hp
    simpa only [List.length_append, List.length_cons, List.length_nil] using this

theorem TableBack (l0 : List S27) (n : Int) (hz : l0.length * Tryd.prog.bytesOf 27 ≤ 140737488351232 ∧ ∀ x ∈ l0, x.f0.size ≤ 140737488351232 ∧ x.f1.size ≤ 140737488351232 ∧ x.f2.size ≤ 140737488351232) (_ : (Lit.int .i64 n).wf = true) : ∃ k, crossroadlaw07_TableBack.f k l0 n = some true := by
  obtain ⟨l, rfl⟩ := exRs l0
  have hb : Tryd.prog.bytesOf 27 = 48 := by kernel_rfl
  have hlen := hz.1
  rw [hb, List.length_map] at hlen
  have hfit : ∀ r ∈ l, Fits r := fun r hr => by
    have := hz.2 (rT r) (List.mem_map_of_mem hr)
    simpa [rT, Fits] using this
  refine Ev.rounds (g := fun k => crossroadlaw07_TableBack.f k (l.map rT) n) ?_
  simp only [crossroadlaw07_TableBack.f, List.length_map]
  refine Ev.bind fit_f ?_
  simp only [if_true]
  refine Ev.bind (light_f l (by omega)) ?_
  cases hli : lightL l with
  | false => simp only [Bool.false_eq_true, if_false]; exact Ev.now true
  | true =>
    obtain ⟨h60, h4000⟩ := light_small l hfit hli
    have hsum := light_sum l hfit hli
    have hs : ∀ r ∈ l, Small r := fun r hr => small_of r (h4000 r hr)
    simp only [if_true]
    refine Ev.bind (check_f l (by omega) hs) ?_
    by_cases hc : checkL l = 0
    · have h24 := (check_zero hc).2
      have hpl : (printL l).length ≤ 80000 := by
        have : ∀ l : List R3, (printL l).length = (l.map fun r => r.m.length + r.p.length + r.h.length).sum + l.length * 3 := fun l => by
          induction l with
          | nil => rfl
          | cons r q ih => rw [show printL (r :: q) = lineL r ++ printL q from rfl, List.length_append, ih]; simp [lineL]; omega
        rw [this]; omega
      have htl := txt_len n l 0
      simp only [hc, if_true]
      refine Ev.bind (print_f l (by omega) hs) ?_
      refine Ev.bind (parse_f (printL l) (by omega)) ?_
      rw [parse_print _ hc]
      simp only [parT]
      exact back_l0 n l h24 l [] [10, 32, 32, 10] rfl (by simp only [List.length_append, List.length_nil, List.length_cons]; omega) (txt_parse n l hc)
    · simp only [if_neg hc]; exact Ev.now true
end Go.Proofs.YtidkhbkndbnnjaaDoor.Pure

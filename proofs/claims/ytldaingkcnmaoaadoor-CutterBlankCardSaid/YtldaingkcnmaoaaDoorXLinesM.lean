/- Lines: where a CR stands, and what a Cutter says when its LF stands alone, or another byte comes behind it. Plain lists. -/
import Derived.Test.YtldaingkcnmaoaaDoorXCutL
set_option linter.unusedVariables false
set_option linter.unusedSimpArgs false
namespace Go.Proofs.YtldaingkcnmaoaaDoor.M
open Go.RowKit Go.Proofs.YtldaingkcnmaoaaDoorW.PrintWords Go.Proofs.YtldaingkcnmaoaaDoor.X

theorem text_mid (pre : List (List UInt8)) (w : List UInt8) (post : List (List UInt8)) : textOf (pre ++ w :: post) = (textOf pre ++ w) ++ 13 :: 10 :: textOf post := by
  induction pre with
  | nil => rfl
  | cons u r ih => simp only [List.cons_append, textOf, ih]; simp [List.append_assoc]
theorem size_mid (pre : List (List UInt8)) (w : List UInt8) (post : List (List UInt8)) : sizeOf' (pre ++ w :: post) = sizeOf' pre + (w.length + 2 + sizeOf' post) := by
  induction pre with
  | nil => simp [sizeOf']
  | cons u r ih => simp only [List.cons_append, sizeOf', ih]; omega
theorem split_cr : ∀ (vs : List (List UInt8)) (n : Nat), (∀ w ∈ vs, Clean w) → (textOf vs)[n]? = some 13 → ∃ pre w post, vs = pre ++ w :: post ∧ n = (textOf pre ++ w).length
  | [], n, _, h => by simp [textOf] at h
  | w :: r, n, hc, h => by
    rw [textOf] at h
    by_cases h1 : n < w.length
    · rw [List.getElem?_append_left h1] at h
      exact absurd rfl (hc w (by simp) 13 (List.mem_of_getElem? h)).1
    · rw [List.getElem?_append_right (by omega)] at h
      by_cases h2 : n = w.length
      · exact ⟨[], w, r, rfl, by simp [textOf, h2]⟩
      · by_cases h3 : n = w.length + 1
        · rw [h3, show w.length + 1 - w.length = 1 by omega] at h
          simp at h
        · obtain ⟨m, rfl⟩ : ∃ m, n = w.length + 2 + m := ⟨n - w.length - 2, by omega⟩
          rw [show w.length + 2 + m - w.length = m + 1 + 1 by omega, List.getElem?_cons_succ, List.getElem?_cons_succ] at h
          obtain ⟨pre, u, post, e1, e2⟩ := split_cr r m (fun x hx => hc x (by simp [hx])) h
          refine ⟨w :: pre, u, post, by rw [e1]; rfl, ?_⟩
          rw [e2]
          simp only [textOf, List.length_append, List.length_cons]
          omega
theorem lone_400 (c : CutS) (out : List Rq) (pre : List (List UInt8)) (w post : List UInt8) (h : ∀ u ∈ pre, Clean u ∧ u ≠ []) (hw : Clean w) (hz : sizeOf' pre + w.length + 2 ≤ 1000) : (runM (textOf pre ++ (w ++ 10 :: post)) (hs c [] [] 0) out).1.status = 400 := by
  rw [run_lines c _ out pre [] 0 h (by omega), run_word c _ _ out w [] _ clean_nil hw (by omega), List.nil_append, List.nil_append, run_hs, hs_lone c _ w _ (by omega) hw, norm_fail, runM_done _ _ _ rfl]
  rfl
theorem bad_400 (c : CutS) (out : List Rq) (pre : List (List UInt8)) (w post : List UInt8) (h : ∀ u ∈ pre, Clean u ∧ u ≠ []) (hw : Clean w) (hz : sizeOf' pre + w.length + 2 ≤ 1000) : (runM (textOf pre ++ (w ++ 13 :: 120 :: post)) (hs c [] [] 0) out).1.status = 400 := by
  rw [run_lines c _ out pre [] 0 h (by omega), run_word c _ _ out w [] _ clean_nil hw (by omega), List.nil_append, List.nil_append, run_hs, hs_step c _ w _ 13 (by omega) (by decide) hw, norm_hs, run_hs, hs_bad c _ w _ 120 (by omega) (by decide), norm_fail, runM_done _ _ _ rfl]
  rfl
/-- A text of lines, all but the last of them not empty: at each CR. -/
theorem lines_both (ws : List (List UInt8)) (hws : ∀ w ∈ ws, Clean w ∧ w ≠ []) (hz : sizeOf' (ws ++ [[]]) ≤ 1000) (n : Nat) (h : (textOf (ws ++ [[]]))[n]? = some 13) :
    (runM ((textOf (ws ++ [[]])).take n ++ (textOf (ws ++ [[]])).drop (n + 1)) newC []).1.status = 400 ∧ (runM ((textOf (ws ++ [[]]) ++ [120]).set (n + 1) 120) newC []).1.status = 400 ∧ n + 1 < (textOf (ws ++ [[]])).length := by
  have hcl : ∀ w ∈ ws ++ [[]], Clean w := fun w hw => by
    rcases List.mem_append.1 hw with hw | hw
    · exact (hws w hw).1
    · rw [List.mem_singleton.1 hw]; exact clean_nil
  obtain ⟨pre, w, post, e, rfl⟩ := split_cr _ n hcl h
  have hw : Clean w := hcl w (by rw [e]; simp)
  have hpre : ∀ u ∈ pre, Clean u ∧ u ≠ [] := fun u hu => by
    have hl : pre.length ≤ ws.length := by
      have := congrArg List.length e
      simp only [List.length_append, List.length_cons, List.length_nil] at this
      omega
    have h1 := congrArg (List.take pre.length) e
    rw [List.take_left' rfl, List.take_append_of_le_length hl] at h1
    exact hws u (List.mem_of_mem_take (h1 ▸ hu))
  rw [e, size_mid] at hz
  have hnn := sizeOf_nonneg post
  rw [e, text_mid]
  obtain ⟨A, hA⟩ : ∃ A, A = textOf pre ++ w := ⟨_, rfl⟩
  rw [← hA]
  have e1 : (A ++ 13 :: 10 :: textOf post).take A.length = A := List.take_left' rfl
  have e2 : (A ++ 13 :: 10 :: textOf post).drop (A.length + 1) = 10 :: textOf post := by
    rw [show A ++ 13 :: 10 :: textOf post = (A ++ [13]) ++ 10 :: textOf post by simp]
    exact List.drop_left' (by simp)
  have e3 : ((A ++ 13 :: 10 :: textOf post) ++ [120]).set (A.length + 1) 120 = A ++ 13 :: 120 :: (textOf post ++ [120]) := by
    rw [show (A ++ 13 :: 10 :: textOf post) ++ [120] = (A ++ [13]) ++ 10 :: (textOf post ++ [120]) by simp, List.set_append_right _ _ (by simp)]
    simp
  rw [e1, e2, e3, hA, new_hs, List.append_assoc, List.append_assoc]
  refine ⟨lone_400 newC [] pre w _ hpre hw (by omega), bad_400 newC [] pre w _ hpre hw (by omega), ?_⟩
  simp only [List.length_append, List.length_cons]
  omega
/-! ### empty lines -/
def blankT : Nat → List UInt8
  | 0 => []
  | i + 1 => 13 :: 10 :: blankT i
theorem blank_snoc (i : Nat) : blankT i ++ [13, 10] = blankT (i + 1) := by
  induction i with
  | zero => rfl
  | succ i ih => rw [blankT, List.cons_append, List.cons_append, ih]; rfl
theorem blank_len (i : Nat) : (blankT i).length = 2 * i := by
  induction i with
  | zero => rfl
  | succ i ih => simp only [blankT, List.length_cons, ih]; omega
theorem run_blanks (c : CutS) (rest : List UInt8) (out : List Rq) (i : Nat) : runM (blankT i ++ rest) (hs c [] [] 0) out = runM rest (hs c [] [] 0) out := by
  induction i with
  | zero => rfl
  | succ i ih => rw [blankT, List.cons_append, List.cons_append, run_blank, ih]
end Go.Proofs.YtldaingkcnmaoaaDoor.M

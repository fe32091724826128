/- CutterGrows: what is cut of a text is what is cut first of a longer one. No condition. -/
import Derived.Test.YtldaingkcnmaoaaXCutP
import Derived.Test.YtldaingkcnmaoaaX20
set_option linter.unusedVariables false
set_option linter.unusedSimpArgs false
namespace Go.Proofs.Ytldaingkcnmaoaa.Pure
open Go.RowKit Go.Proofs.Ytldaingkcnmaoaa.X Go.Proofs.YtldaingkcnmaoaaW.PrintWords Go.Proofs.YtldaingkcnmaoaaW.PrintLast Go.Proofs.Ytldaingkcnmaoaa.M

theorem grows_l0 (A more : List Rq) (hA : ∀ q ∈ A, q.f2.length ≤ 1000) (hl : A.length ≤ 1000000) : ∀ (d i : Nat), i + d = A.length → Ev (fun k => crossroadlaw04_CutterGrows.l0 k A (A ++ more) (A.length : Int) (i : Int)) true := by
  intro d
  induction d with
  | zero =>
    intro i hi
    refine Ev.step' ?_
    simp only [crossroadlaw04_CutterGrows.l0, if_neg (show ¬ (i : Int) < (A.length : Int) by omega)]
    exact Ev.now _
  | succ d ih =>
    intro i hi
    refine Ev.step' ?_
    have hw : wrap64 ((i : Int) + 1) = ((i + 1 : Nat) : Int) := by rw [w64 (by omega) (by omega)]; omega
    have hi2 : i < A.length := by omega
    have e1 : rd_T30 A (i : Int) = A[i] := by simp [rd_T30, hi2]
    have e2 : rd_T30 (A ++ more) (i : Int) = A[i] := by simp [rd_T30, List.getElem?_append_left hi2, hi2]
    simp only [crossroadlaw04_CutterGrows.l0, if_pos (show (i : Int) < (A.length : Int) by omega), if_pos (show (0 : Int) ≤ (i : Int) by omega), if_pos (show (i : Int) < ((A ++ more).length : Int) by simp only [List.length_append]; omega), e1, e2, hw]
    refine Ev.bind (same_f A[i] (Nat.le_trans (hA _ (List.getElem_mem hi2)) (by omega))) ?_
    simp only [if_true]
    exact ih (i + 1) (by omega)
theorem out_len (s : List UInt8) : ∀ (c : CutS) (out : List Rq), (runM s c out).2.length ≤ out.length + s.length := by
  induction s with
  | nil => intro c out; exact Nat.le_refl _
  | cons x r ih =>
    intro c out
    rw [runM]
    split
    · simp
    · refine Nat.le_trans (ih _ _) ?_
      have : (normM (stepL c x) out).2.length ≤ out.length + 1 := by
        unfold normM
        split
        · simp
        · split
          · simp
          · split <;> simp
      simp only [List.length_cons]
      omega
theorem CutterGrows : crossroadlaw04_CutterGrows.Pure := by
  intro a0 a1 s0 _
  obtain ⟨s, rfl⟩ := exBA a0
  simp only [toBA_size] at s0
  refine Ev.rounds (g := fun k => crossroadlaw04_CutterGrows.f k (toBA s) a1) ?_
  simp only [crossroadlaw04_CutterGrows.f, toBA_size]
  refine Ev.bind cut_fit_f ?_
  simp only [if_true]
  by_cases h5 : s.length > 5000
  · simp only [if_pos (show (s.length : Int) > 5000 by omega)]; exact Ev.now true
  · have hw : wrap64 ((s.length : Int) + 1) = (s.length : Int) + 1 := w64 (by omega) (by omega)
    obtain ⟨m, hm, hms⟩ : ∃ m : Nat, Int.tmod (bits .and .i64 a1 65535) ((s.length : Int) + 1) = (m : Int) ∧ m ≤ s.length := by
      rw [i64_and65535, Int.tmod_eq_emod_of_nonneg (by omega)]
      have h1 := Int.emod_nonneg (a1 % 65536) (show (s.length : Int) + 1 ≠ 0 by omega)
      have h2 := Int.emod_lt_of_pos (a1 % 65536) (show (0 : Int) < (s.length : Int) + 1 by omega)
      exact ⟨(a1 % 65536 % ((s.length : Int) + 1)).toNat, by omega, by omega⟩
    simp only [if_neg (show ¬ (s.length : Int) > 5000 by omega), hw, if_neg (show ¬ (s.length : Int) + 1 = 0 by omega), hm, if_pos (show (0 : Int) ≤ (m : Int) by omega), if_pos (show (m : Int) ≤ (s.length : Int) by omega), toBA_extract, Int.toNat_natCast, List.drop_zero, Nat.sub_zero]
    refine Ev.bind (cut_all_f (s.take m) (by rw [List.length_take]; omega)) ?_
    refine Ev.bind (cut_all_f s (by omega)) ?_
    have hB : runM s newC [] = runM (s.drop m) (runM (s.take m) newC []).1 (runM (s.take m) newC []).2 := by
      conv => lhs; rw [← List.take_append_drop m s]
      exact runM_app _ _ _ _
    have hS := runM_s (s.take m) newC [] new_s
    have hF := runM_F (s.take m) newC [] new_F
    have hL := out_len (s.take m) newC []
    rw [hB]
    generalize runM (s.take m) newC [] = A at hS hF hL
    obtain ⟨more, hmore⟩ := runM_out (s.drop m) A.1 A.2
    have hlen : A.2.length ≤ (runM (s.drop m) A.1 A.2).2.length := by rw [hmore]; simp
    have hAl : A.2.length ≤ 1000000 := by rw [List.length_take] at hL; simp only [List.length_nil] at hL; omega
    have key : Ev (fun k => crossroadlaw04_CutterGrows.j0 k A.2 (runM (s.drop m) A.1 A.2).2 false) true := by
      refine Ev.step' ?_
      simp only [crossroadlaw04_CutterGrows.j0, Bool.false_eq_true, if_false]
      rw [hmore]
      exact grows_l0 A.2 more hF.2.2 hAl A.2.length 0 (by omega)
    simp only [if_neg (show ¬ (A.2.length : Int) > ((runM (s.drop m) A.1 A.2).2.length : Int) by omega)]
    by_cases hz : A.1.status = 0
    · simp only [if_pos hz]; exact key
    · have hd : A.1.done = true := hS.resolve_right hz
      have e := runM_done (s.drop m) A.1 A.2 hd
      rw [e] at key ⊢
      simp only [if_neg hz, if_true, bne_self_eq_false]
      exact key
end Go.Proofs.Ytldaingkcnmaoaa.Pure

/- CutterLong: a head that is too long is told, wherever it ends; one that is just so long is not. No condition. -/
import Derived.Test.YtldaingkcnmaoaaXCutL
import Derived.Test.YtldaingkcnmaoaaX18
set_option linter.unusedVariables false
set_option linter.unusedSimpArgs false
namespace Go.Proofs.Ytldaingkcnmaoaa.Pure
open Go.RowKit Go.Proofs.Ytldaingkcnmaoaa.X Go.Proofs.YtldaingkcnmaoaaW.PrintWords Go.Proofs.YtldaingkcnmaoaaW.PrintLast Go.Proofs.Ytldaingkcnmaoaa.M

def lGet : List UInt8 := [71, 69, 84, 32, 47, 32, 72, 84, 84, 80, 47, 49, 46, 49]
theorem get_parse (rest : List (List UInt8)) (fs : List FldM) (hr : rest.length ≤ 16) (hfs : fieldsL rest = some fs) : parseL (lGet :: rest) = frameL [71, 69, 84] [47] fs := by
  have e : lGet = [71, 69, 84] ++ 32 :: ([47] ++ 32 :: sVer) := rfl
  rw [e, parse_plain _ _ _ fs (by decide) (by decide) (by decide) hr (by decide +kernel) hfs]
def blankT : Nat → List UInt8
  | 0 => []
  | i + 1 => 13 :: 10 :: blankT i
theorem blank_snoc (i : Nat) : blankT i ++ [13, 10] = blankT (i + 1) := by
  induction i with
  | zero => rfl
  | succ i ih => rw [blankT, List.cons_append, List.cons_append, ih]; rfl
theorem blank_len (i : Nat) : (blankT i).length = 2 * i := by
  induction i with
  | zero => rfl
  | succ i ih => simp only [blankT, List.length_cons, ih]; omega
theorem run_blanks (c : CutS) (rest : List UInt8) (out : List Rq) (i : Nat) : runM (blankT i ++ rest) (hs c [] [] 0) out = runM rest (hs c [] [] 0) out := by
  induction i with
  | zero => rfl
  | succ i ih => rw [blankT, List.cons_append, List.cons_append, run_blank, ih]
def vs (n : Nat) : List UInt8 := List.replicate n 118
theorem vs_len (n : Nat) : (vs n).length = n := by simp [vs]
def lX (n : Nat) : List UInt8 := [120, 58, 32] ++ vs n
def preL : List UInt8 := [71, 69, 84, 32, 47, 32, 72, 84, 84, 80, 47, 49, 46, 49, 13, 10, 104, 111, 115, 116, 58, 32, 97, 13, 10, 120, 58, 32]
theorem text_eq (n : Nat) : (preL ++ vs n) ++ [13, 10, 13, 10] = lGet ++ 13 :: 10 :: (lHost ++ 13 :: 10 :: (lX n ++ 13 :: 10 :: ([] ++ 13 :: 10 :: []))) := by
  have e : preL = lGet ++ 13 :: 10 :: (lHost ++ 13 :: 10 :: [120, 58, 32]) := rfl
  rw [e, lX]
  simp [List.append_assoc]
theorem clean_vs (n : Nat) : M.Clean (lX n) := by
  intro c hc
  rcases List.mem_append.1 hc with hc | hc
  · rcases List.mem_cons.1 hc with rfl | hc
    · decide
    · rcases List.mem_cons.1 hc with rfl | hc
      · decide
      · rw [List.mem_singleton.1 hc]; decide
  · rw [List.eq_of_mem_replicate hc]; decide
theorem clean_get : M.Clean lGet := by
  have h : lGet.all (fun c => decide (c.toNat ≠ 13 ∧ c.toNat ≠ 10)) = true := by decide
  intro c hc
  simpa using List.all_eq_true.1 h c hc
theorem clean_host : M.Clean lHost := by
  have h : lHost.all (fun c => decide (c.toNat ≠ 13 ∧ c.toNat ≠ 10)) = true := by decide
  intro c hc
  simpa using List.all_eq_true.1 h c hc
theorem trim_vs (n : Nat) : trimL (32 :: vs n) = vs n := by
  have h := trim_pad [32] (vs n) [] (by decide) (by decide)
  rw [List.append_nil] at h
  rw [show (32 : UInt8) :: vs n = [32] ++ vs n from rfl, h]
  refine trim_of_ends _ ?_
  cases n with
  | zero => exact .inl rfl
  | succ n =>
    refine .inr ⟨⟨118, vs n, rfl, by decide⟩, vs n, 118, ?_, by decide⟩
    show List.replicate (n + 1) 118 = List.replicate n 118 ++ [118]
    rw [List.replicate_succ']
theorem field_vs (n : Nat) : fieldL (lX n) = (([120], vs n), true) := by
  have h := field_of [120] (32 :: vs n) (by decide) (by decide +kernel) (by
    rw [trim_vs]
    unfold valueL
    rw [List.all_eq_true]
    intro c hc
    rw [List.eq_of_mem_replicate hc]
    decide)
  rw [trim_vs] at h
  exact h
theorem long_parse (n : Nat) : parseL [lGet, lHost, lX n] = ⟨[71, 69, 84], [47], [fHost, ([120], vs n)], false, 0, 0⟩ := by
  have hf : fieldsL [lHost, lX n] = some [fHost, ([120], vs n)] := fieldsL_cons _ _ _ _ field_host (fieldsL_cons _ _ _ _ (field_vs n) rfl)
  rw [get_parse _ _ (by simp) hf, frame_plain]
  · congr 1
  · simp [M.allL, fHost, sHost]
  · simp [M.allL, fHost, sHost, sLen]
  · simp [M.allL, fHost, sHost, sCod]
theorem long_run (b n : Nat) : (32 + n > 1000 → (runM (blankT b ++ ((preL ++ vs n) ++ [13, 10, 13, 10])) newC []).2 = [] ∧ (runM (blankT b ++ ((preL ++ vs n) ++ [13, 10, 13, 10])) newC []).1.status = 431) ∧
    (¬ 32 + n > 1000 → (runM (blankT b ++ ((preL ++ vs n) ++ [13, 10, 13, 10])) newC []).2.length = 1 ∧ (runM (blankT b ++ ((preL ++ vs n) ++ [13, 10, 13, 10])) newC []).1.status = 0) := by
  have h1 : lGet.length = 14 := rfl
  have h2 : lHost.length = 7 := rfl
  have h3 : (lX n).length = 3 + n := by simp [lX, vs]; omega
  have hne : lX n ≠ [] := by simp [lX]
  rw [text_eq, new_hs, run_blanks]
  refine ⟨fun h => ?_, fun h => ?_⟩
  · have key : Big (runM (lGet ++ 13 :: 10 :: (lHost ++ 13 :: 10 :: (lX n ++ 13 :: 10 :: ([] ++ 13 :: 10 :: [])))) (hs newC [] [] 0) []) [] := by
      rw [run_line newC [] _ [] lGet 0 clean_get (by decide) (by omega), run_line newC _ _ [] lHost _ clean_host (by decide) (by omega)]
      by_cases h4 : n > 970
      · exact big_line newC _ _ [] (lX n) _ (clean_vs n) (by omega) (by omega)
      · rw [run_line newC _ _ [] (lX n) _ (clean_vs n) hne (by omega)]
        exact big_line newC _ _ [] [] _ clean_nil (by omega) (by simp only [List.length_nil]; omega)
    exact ⟨key.2.2, key.2.1⟩
  · have e : lGet ++ 13 :: 10 :: (lHost ++ 13 :: 10 :: (lX n ++ 13 :: 10 :: ([] ++ 13 :: 10 :: []))) = textOf [lGet, lHost, lX n] ++ 13 :: 10 :: [] := by simp [textOf, List.append_assoc]
    have hsz : sizeOf' [lGet, lHost, lX n] = 30 + n := by simp only [sizeOf']; omega
    rw [e, run_text newC [] [] [lGet, lHost, lX n] (fun w hw => by
      rcases List.mem_cons.1 hw with rfl | hw
      · exact ⟨clean_get, by decide⟩
      · rcases List.mem_cons.1 hw with rfl | hw
        · exact ⟨clean_host, by decide⟩
        · rw [List.mem_singleton.1 hw]; exact ⟨clean_vs n, hne⟩) (by simp) (by omega)]
    have hp := long_parse n
    rw [heads_ok newC _ _ (by rw [hp]), hp, norm_end _ _ _ _ _ _ rfl rfl, endC_open _ _ _ _ _ rfl]
    exact ⟨rfl, rfl⟩
theorem long_l1 (b n : Nat) (hn : n ≤ 2047) (hb : b ≤ 3) : ∀ (d i : Nat), i + d = n → Ev (fun k => crossroadlaw04_CutterLong.l1 k (toBA (blankT b)) (toBA (preL ++ vs i)) (n : Int) (i : Int)) true := by
  intro d
  induction d with
  | zero =>
    intro i hi
    have hi' : i = n := by omega
    subst hi'
    have c4 : (⟨#[13, 10, 13, 10]⟩ : ByteArray) = toBA [13, 10, 13, 10] := rfl
    have hpl : preL.length = 28 := rfl
    have hbl := blank_len b
    refine Ev.step' ?_
    simp only [crossroadlaw04_CutterLong.l1, if_neg (show ¬ (i : Int) < (i : Int) by omega), c4, toBA_append, toBA_size, List.length_append, hpl, vs_len, hbl, List.length_cons, List.length_nil, if_pos (show 28 + i + 4 ≤ 9223372036854775807 by omega), if_pos (show 2 * b + (28 + i + (0 + 1 + 1 + 1 + 1)) ≤ 9223372036854775807 by omega)]
    refine Ev.bind (cut_all_f (blankT b ++ ((preL ++ vs i) ++ [13, 10, 13, 10])) (by simp only [List.length_append, hpl, vs_len, hbl, List.length_cons, List.length_nil]; omega)) ?_
    obtain ⟨h1, h2⟩ := long_run b i
    by_cases h : 32 + i > 1000
    · obtain ⟨e1, e2⟩ := h1 h
      simp only [e1, e2, if_pos (show (((28 + i + (0 + 1 + 1 + 1 + 1) : Nat)) : Int) > 1000 by omega), List.length_nil]
      exact Ev.const rfl
    · obtain ⟨e1, e2⟩ := h2 h
      simp only [e1, e2, if_neg (show ¬ (((28 + i + (0 + 1 + 1 + 1 + 1) : Nat)) : Int) > 1000 by omega)]
      exact Ev.const rfl
  | succ d ih =>
    intro i hi
    have c1 : (⟨#[118]⟩ : ByteArray) = toBA [118] := rfl
    have hpl : preL.length = 28 := rfl
    have hw : wrap64 ((i : Int) + 1) = ((i + 1 : Nat) : Int) := by rw [w64 (by omega) (by omega)]; omega
    have e : (preL ++ vs i) ++ [118] = preL ++ vs (i + 1) := by rw [List.append_assoc]; congr 1; show List.replicate i 118 ++ [118] = List.replicate (i + 1) 118; rw [List.replicate_succ']
    refine Ev.step' ?_
    simp only [crossroadlaw04_CutterLong.l1, if_pos (show (i : Int) < (n : Int) by omega), toBA_size, List.length_append, hpl, vs_len, if_pos (show 28 + i + 1 ≤ 9223372036854775807 by omega), c1, toBA_append, e, hw]
    exact ih (i + 1) (by omega)
theorem long_l0 (b n : Nat) (hn : n ≤ 2047) (hb : b ≤ 3) : ∀ (d i : Nat), i + d = b → Ev (fun k => crossroadlaw04_CutterLong.l0 k (n : Int) (toBA (blankT i)) (b : Int) (i : Int)) true := by
  intro d
  induction d with
  | zero =>
    intro i hi
    have hi' : i = b := by omega
    subst hi'
    have cp : (⟨#[71, 69, 84, 32, 47, 32, 72, 84, 84, 80, 47, 49, 46, 49, 13, 10, 104, 111, 115, 116, 58, 32, 97, 13, 10, 120, 58, 32]⟩ : ByteArray) = toBA (preL ++ vs 0) := rfl
    refine Ev.step' ?_
    simp only [crossroadlaw04_CutterLong.l0, if_neg (show ¬ (i : Int) < (i : Int) by omega), cp]
    exact long_l1 i n hn hb n 0 (by omega)
  | succ d ih =>
    intro i hi
    have c2 : (⟨#[13, 10]⟩ : ByteArray) = toBA [13, 10] := rfl
    have hw : wrap64 ((i : Int) + 1) = ((i + 1 : Nat) : Int) := by rw [w64 (by omega) (by omega)]; omega
    have hbl := blank_len i
    refine Ev.step' ?_
    simp only [crossroadlaw04_CutterLong.l0, if_pos (show (i : Int) < (b : Int) by omega), toBA_size, hbl, if_pos (show 2 * i + 2 ≤ 9223372036854775807 by omega), c2, toBA_append, blank_snoc, hw]
    exact ih (i + 1) (by omega)
theorem CutterLong : crossroadlaw04_CutterLong.Pure := by
  intro a0 a1 _ _
  refine Ev.rounds (g := fun k => crossroadlaw04_CutterLong.f k a0 a1) ?_
  simp only [crossroadlaw04_CutterLong.f]
  refine Ev.bind cut_fit_f ?_
  simp only [if_true]
  obtain ⟨n, hn, hn2⟩ : ∃ n : Nat, bits .and .i64 a0 2047 = (n : Int) ∧ n ≤ 2047 := by
    rw [i64_and2047]
    exact ⟨(a0 % 2048).toNat, by omega, by omega⟩
  obtain ⟨b, hb, hb2⟩ : ∃ b : Nat, bits .and .i64 a1 3 = (b : Int) ∧ b ≤ 3 := by
    rw [i64_and3]
    exact ⟨(a1 % 4).toNat, by omega, by omega⟩
  rw [hn, hb]
  exact long_l0 b n hn2 hb2 b 0 (by omega)
end Go.Proofs.Ytldaingkcnmaoaa.Pure
